/- slack.late. (Printed by wip/tk/mkTmA.py.) -/
import Derived.Test.YtjcekdiocliddaaGreatDoorG81
namespace Go.Proofs.YtjcekdiocliddaaGreatDoor
open Go.RowKit Num Txt Pf Tk
set_option linter.unusedVariables false
attribute [local go_sem] B_size B_get B_toList B_mk B_extract B_append
theorem wrap_succ {n:Nat} (h:n≤1000000):IntKind.i64.wrap ((n:Int)+1)=(n:Int)+1:=by
 simp [IntKind.wrap,IntKind.bits,IntKind.signed]
 omega
set_option maxHeartbeats 32000000 in
set_option maxRecDepth 100000 in
theorem late_any (m:InsM) (r:RouM) (A:Option Addr) (c:Nat) (s:SheetV) (p:TripV) (n:Nat) (ticks:Int) (w:World) (hm:InsAt w m) (hok:InsOK m.v) (hr:RouAt w r) (hvl:r.r.vis.length≤8) (hT:Tab w) (ht:TmAt w A c s.times) (hp:PlanIs m.v r.r p) (hs:BestS p s) (hn:n≤r.r.vis.length) (htk:0≤ticks∧ticks≤100000) :
  Calls Tryz.prog 29 #[insA m,rouA r,sheetA A c s,.int .i64 n,.int .i64 ticks] w (LateE p s n ticks w):=by
 obtain ⟨k1,k2,k3,k4,k5⟩:=alloc4 w (.cells (insQ m) 30) (.cells (rouR r) 34) (.cells (sheetQ A c s) 39) (.cells (sheetQ none 0 shZ) 39)
 have HB:=Lib.hid k5
 have HK1:=Lib.hid k1
 have HK2:=Lib.hid k2
 have HK3:=Lib.hid k3
 have HK4:=Lib.hid k4
 have HM:=Lib.hid hm
 have HO:=Lib.hid hok
 have HR:=Lib.hid hr
 have HT:=Lib.hid hT
 have HTM:=Lib.hid ht
 have HP:=Lib.hid hp
 obtain ⟨hleg,hstl⟩:=hs.legs
 have hsm:=small_of (hp.ok hok) hleg hstl
 have HLG:=Lib.hid hleg
 have HSM:=Lib.hid hsm
 have hpl:=hp.len
 have HPL:=Lib.hid hpl
 have HSL:=Lib.hid hstl
 have hdr:=(hp.ok hok).t.drive
 have hsf:=hsm.fin
 have hs8:s.times.length≤8:=by omega
 have hnl:n≤s.times.length:=by omega
 have hnc:s.times.length≤c∧c≤maxLen:=ht.2.1
 have hncl:n≤c:=Nat.le_trans hnl hnc.1
 unfold maxLen at hnc
 have hnp:n≤p.stops.length:=by omega
 have hp8:p.stops.length≤8:=by omega
 obtain ⟨db1,db2⟩:=driven_b hsm hleg ⟨by omega,by omega⟩ hp8 n hnp
 obtain ⟨eb1,eb2⟩:=dep_b hsm n
 have hab:0≤arrAt s n∧arrAt s n≤4096:=by
  unfold arrAt
  cases hts:s.times[n]? with
  |none=>exact hsf
  |some tv=>exact (hsm.each tv (List.mem_of_getElem? hts)).1
 have HAH:=Lib.hid (fun g (t:TypeM) w' (hg:w'.heap[g]? = some (.cells (wkR m r A c s t 0 0) 164)) (ht':TmAt w' A c s.times)=>wahead_any (m:=m) (r:=r) (t:=t) g n p w' hg ht' hsm hleg ⟨by omega,by omega⟩ hnl hs8)
 obtain ⟨kd,hkd⟩:∃ kd:Nat,r.r.kind=(kd:Int):=⟨r.r.kind.toNat,by have:=hp.k0;omega⟩
 have hkt:=hp.t
 rw [hkd,Int.toNat_natCast] at hkt
 have hkl:kd<m.types.length:=by
  have h1:=(List.getElem?_eq_some_iff.1 hkt).1
  have h2:m.v.types.length=m.types.length:=by show (m.types.map _).length=_;rw [List.length_map]
  omega
 have hnt:m.types.length≤2:=by have:=hok.nt;unfold InsM.v at this;simpa using this
 have htt:m.types[kd].t=p.t:=by
  have h2:m.v.types[kd]? = some m.types[kd].t:=by show (m.types.map (·.t))[kd]? = _;rw [List.getElem?_map,List.getElem?_eq_getElem hkl];rfl
  rw [h2] at hkt
  injection hkt
 have HKD:=Lib.hid hkd
 obtain ⟨gt,ot,hA1,hgt,hx1⟩:=elemsP TypeM.cells_len (by decide) hm.types (by omega)
 have HX:=Lib.hid (fun j u h=>(k5.cell (p:=⟨gt,ot+kd*14+j,none⟩) hgt).trans (hx1 kd hkl j u h))
 have hgt4:=Nat.lt_of_lt_of_le hgt k5.size
 have hg13:=lt_heap k1
 have hg23:=lt_heap k2
 have hg33:=lt_heap k3
 have hg43:=lt_heap k4
 have HA1:=Lib.hid hA1
 have hkl1:(kd:Int)<(m.types.length:Int):=by omega
 obtain ⟨t,htd⟩:∃ t,m.types[kd]=t:=⟨_,rfl⟩
 rw [htd] at HX htt
 have HTP:=Lib.hid htt
 have HTC:=Lib.hid (show A=none→c=0 from ht.2.2.2)
 have HTT:=Lib.hid (show Cells w A ((s.times.take n).flatMap timeC) from fun h0=>by
  have e:s.times.flatMap timeC=(s.times.take n).flatMap timeC ++ (s.times.drop n).flatMap timeC:=by rw [← List.flatMap_append,List.take_append_drop]
  obtain ⟨b,off,ea,hb,hx⟩:=ht.1 (by rw [e,List.length_append];omega)
  exact ⟨b,off,ea,hb,fun j v hv=>hx j v (by rw [e,List.getElem?_append_left (List.getElem?_eq_some_iff.1 hv).1];exact hv)⟩)
 clear hm hok hr hT ht hp hs k1 k2 k3 k4 k5 hleg hstl hsm hpl hkt htd htt hx1 hA1 hkd
 generalize hdn:drivenAt s n=dn at *
 generalize hen:depAt s n=en at *
 have HDN:=Lib.hid hdn
 have HEN:=Lib.hid hen
 generalize har:arrAt s n=an at *
 have HAR:=Lib.hid har
 clear hdn hen har
 go_enter Tryz.func29,Tryz.ntmps29
 (try simp only [B_mk])
 go_upto_region 1 with fail
 rw [show (((w.alloc (.cells #[.slice m.pA m.places.length m.pc,.slice m.aA m.arcs.length m.ac,.slice m.tA m.types.length m.tc,.slice m.oA m.ords.length m.oc,.slice m.xA m.apart.length m.xc,.slice m.bA m.before.length m.bc] 30)).alloc (.cells #[.int .i64 r.r.kind,.int .i64 r.r.start,.slice r.A r.r.rests.length r.ca,.slice r.C r.r.vis.length r.cc] 34)).alloc (.cells #[.bool s.rest,.int .i64 s.dep,.slice A s.times.length c,.int .i64 s.fin,.int .i64 s.miles] 39)).alloc (.cells #[.bool false,.int .i64 0,.slice none 0 0,.int .i64 0,.int .i64 0] 39)=(((w.alloc (.cells (insQ m) 30)).alloc (.cells (rouR r) 34)).alloc (.cells (sheetQ A c s) 39)).alloc (.cells (sheetQ none 0 shZ) 39) from rfl]
 generalize (((w.alloc (.cells (insQ m) 30)).alloc (.cells (rouR r) 34)).alloc (.cells (sheetQ A c s) 39)).alloc (.cells (sheetQ none 0 shZ) 39)=w4 at *
 obtain ⟨h1,hh1⟩:∃ g,g=w.heap.size:=⟨_,rfl⟩
 obtain ⟨h2,hh2⟩:∃ g,g=w.heap.size+1:=⟨_,rfl⟩
 obtain ⟨h3,hh3⟩:∃ g,g=w.heap.size+1+1:=⟨_,rfl⟩
 obtain ⟨h4,hh4⟩:∃ g,g=w.heap.size+1+1+1:=⟨_,rfl⟩
 rw [← hh4] at HK4 hg43
 rw [← hh4,← hh3,← hh2,← hh1]
 rw [← hh3] at HK3 hg33
 rw [← hh2] at HK2 hg23
 rw [← hh1] at HK1 hg13
 have HG4:=Lib.hid (show w.heap.size≤h4 by omega)
 clear hh1 hh2 hh3 hh4
 go_cut [12] (fun x wx=>∃ g:Nat,x=.pointer (some ⟨g,0,none⟩)∧wx.heap[g]? = some (.cells (wkR m r A c s t 0 0) 164)∧Below w4.heap.size w4 wx∧w.heap.size≤g∧h1≠g∧h2≠g∧h3≠g∧h4≠g)
 case first =>
  as_aux_lemma =>
   have HKP:=Lib.hid (show ∀ w' w2,(w'.heap[h1]? = some (.cells (insQ m) 30)∧w'.heap[h2]? = some (.cells (rouR r) 34)∧w'.heap[h3]? = some (.cells (sheetQ A c s) 39)∧(∀ j u,t.cells[j]? = some u→w'.cell? ⟨gt,ot+kd*14+j,none⟩=some u)∧Below w4.heap.size w4 w')→Below w'.heap.size w' w2→(w2.heap[h1]? = some (.cells (insQ m) 30)∧w2.heap[h2]? = some (.cells (rouR r) 34)∧w2.heap[h3]? = some (.cells (sheetQ A c s) 39)∧(∀ j u,t.cells[j]? = some u→w2.cell? ⟨gt,ot+kd*14+j,none⟩=some u)∧Below w4.heap.size w4 w2) from fun w' w2 ⟨q0,q1,q2,q3,q4⟩ hb=>⟨row_keep q0 hb,row_keep q1 hb,row_keep q2 hb,fun j u h=>cell_held q4 hb hgt4 (q3 j u h),below_lift q4 hb⟩)
   have hS0:(fun w'=>w'.heap[h1]? = some (.cells (insQ m) 30)∧w'.heap[h2]? = some (.cells (rouR r) 34)∧w'.heap[h3]? = some (.cells (sheetQ A c s) 39)∧(∀ j u,t.cells[j]? = some u→w'.cell? ⟨gt,ot+kd*14+j,none⟩=some u)∧Below w4.heap.size w4 w') w4.drew:=⟨HK1.out,HK2.out,HK3.out,HX.out,(Below.refl _ w4).drew⟩
   refine wp_region_held_drew (S:=fun w'=>w'.heap[h1]? = some (.cells (insQ m) 30)∧w'.heap[h2]? = some (.cells (rouR r) 34)∧w'.heap[h3]? = some (.cells (sheetQ A c s) 39)∧(∀ j u,t.cells[j]? = some u→w'.cell? ⟨gt,ot+kd*14+j,none⟩=some u)∧Below w4.heap.size w4 w') (by kernel_rfl) hS0 (fun hHeld=>?_)
   refine wpAnyH_take (i:=0) (v:=.agg (insQ m)) (by simp only [List.getElem?_toArray,List.getElem?_cons_zero];rfl) (by kernel_rfl) (by kernel_rfl) (by kernel_rfl) (by exact fun _ _ _ h=>h) (Or.inl ⟨by rfl,?_⟩) (by assumption) ?_
   ·(intro w hSw;exact yl_row 30 _ rfl h1 rfl 30 _ _ Tryz.underlying30 rfl (by kernel_rfl) (hSw.1))
   (try simp only [Act.put,List.setIfInBounds_toArray,List.set_cons_zero,List.set_cons_succ])
   refine wpAnyH_take (i:=1) (v:=.agg (rouR r)) (by simp only [List.getElem?_toArray,List.getElem?_cons_succ,List.getElem?_cons_zero];rfl) (by kernel_rfl) (by kernel_rfl) (by kernel_rfl) (by exact fun _ _ _ h=>h) (Or.inl ⟨by rfl,?_⟩) (by assumption) ?_
   ·(intro w hSw;exact yl_row 34 _ rfl h2 rfl 34 _ _ Tryz.underlying34 rfl (by kernel_rfl) (hSw.2.1))
   (try simp only [Act.put,List.setIfInBounds_toArray,List.set_cons_zero,List.set_cons_succ])
   refine wpAnyH_take (i:=2) (v:=.agg (sheetQ A c s)) (by simp only [List.getElem?_toArray,List.getElem?_cons_succ,List.getElem?_cons_zero];rfl) (by kernel_rfl) (by kernel_rfl) (by kernel_rfl) (by exact fun _ _ _ h=>h) (Or.inl ⟨by rfl,?_⟩) (by assumption) ?_
   ·(intro w hSw;exact yl_row 39 _ rfl h3 rfl 39 _ _ Tryz.underlying39 rfl (by kernel_rfl) (hSw.2.2.1))
   (try simp only [Act.put,List.setIfInBounds_toArray,List.set_cons_zero,List.set_cons_succ])
   refine wpAnyH_take (i:=3) (v:=?_) (by simp only [List.getElem?_toArray,List.getElem?_cons_succ,List.getElem?_cons_zero];rfl) (by kernel_rfl) (by kernel_rfl) (by kernel_rfl) (by exact fun _ _ _ h=>h) (Or.inl ⟨by rfl,?_⟩) (by assumption) ?_
   rotate_left
   ·(intro w hSw;(try dsimp only at hSw);go_simp;(try with_reducible rfl))
   (try simp only [Act.put,List.setIfInBounds_toArray,List.set_cons_zero,List.set_cons_succ])
   refine wpAnyH_take (i:=4) (v:=?_) (by simp only [List.getElem?_toArray,List.getElem?_cons_succ,List.getElem?_cons_zero];rfl) (by kernel_rfl) (by kernel_rfl) (by kernel_rfl) (by exact fun _ _ _ h=>h) (Or.inl ⟨by rfl,?_⟩) (by assumption) ?_
   rotate_left
   ·(intro w hSw;have q:=cellsX hSw.1 2 (.slice m.tA m.types.length m.tc) rfl;rw [HA1.out] at q;go_simp;(try with_reducible rfl))
   (try simp only [Act.put,List.setIfInBounds_toArray,List.set_cons_zero,List.set_cons_succ])
   refine wpAnyH_take (i:=5) (v:=?_) (by simp only [List.getElem?_toArray,List.getElem?_cons_succ,List.getElem?_cons_zero];rfl) (by kernel_rfl) (by kernel_rfl) (by kernel_rfl) (by exact fun _ _ _ h=>h) (Or.inl ⟨by rfl,?_⟩) (by assumption) ?_
   rotate_left
   ·(intro w hSw;(try dsimp only at hSw);go_simp;(try with_reducible rfl))
   (try simp only [Act.put,List.setIfInBounds_toArray,List.set_cons_zero,List.set_cons_succ])
   refine wpAnyH_take (i:=6) (v:=?_) (by simp only [List.getElem?_toArray,List.getElem?_cons_succ,List.getElem?_cons_zero];rfl) (by kernel_rfl) (by kernel_rfl) (by kernel_rfl) (by exact fun _ _ _ h=>h) (Or.inl ⟨by rfl,?_⟩) (by assumption) ?_
   rotate_left
   ·(intro w hSw;have q:=cellsX hSw.2.1 0 (.int .i64 r.r.kind) rfl;rw [HKD.out] at q;go_simp;(try with_reducible rfl))
   (try simp only [Act.put,List.setIfInBounds_toArray,List.set_cons_zero,List.set_cons_succ])
   refine wpAnyH_take (i:=7) (v:=?_) (by simp only [List.getElem?_toArray,List.getElem?_cons_succ,List.getElem?_cons_zero];rfl) (by kernel_rfl) (by kernel_rfl) (by kernel_rfl) (by exact fun _ _ _ h=>h) (Or.inl ⟨by rfl,?_⟩) (by assumption) ?_
   rotate_left
   ·(intro w hSw;(try dsimp only at hSw);go_simp;(try with_reducible rfl))
   (try simp only [Act.put,List.setIfInBounds_toArray,List.set_cons_zero,List.set_cons_succ])
   refine wpAnyH_take (i:=8) (v:=.agg ((t.cells).toArray)) (by simp only [List.getElem?_toArray,List.getElem?_cons_succ,List.getElem?_cons_zero];rfl) (by kernel_rfl) (by kernel_rfl) (by kernel_rfl) (by exact fun _ _ _ h=>h) (Or.inl ⟨by rfl,?_⟩) (by assumption) ?_
   ·(intro w hSw;exact yl_cells 81 _ rfl gt (ot+kd*14) rfl (t.cells) _ Tryz.underlying81 rfl (by kernel_rfl) (hSw.2.2.2.1))
   (try simp only [Act.put,List.setIfInBounds_toArray,List.set_cons_zero,List.set_cons_succ])
   refine wpAnyH_take (i:=9) (v:=.agg (wkR m r A c s t 0 0)) (by simp only [List.getElem?_toArray,List.getElem?_cons_succ,List.getElem?_cons_zero];rfl) (by kernel_rfl) (by kernel_rfl) (by kernel_rfl) (by exact fun _ _ _ h=>h) (Or.inl ⟨by rfl,?_⟩) (by assumption) ?_
   ·(intro w hSw;exact yl_build 164 _ rfl (wkR m r A c s t 0 0) (by simp only [List.map_toArray,List.map_cons,List.map_nil];exact built_wkQ m r A c s t))
   (try simp only [Act.put,List.setIfInBounds_toArray,List.set_cons_zero,List.set_cons_succ])
   refine wpAnyH_ready (rs:=[10]) (by kernel_rfl) (by simp) (AllReadyH.cons (by simp only [List.getElem?_toArray,List.getElem?_cons_succ,List.getElem?_cons_zero];rfl) (fun K hK=>?_) AllReadyH.nil)
   refine wanted_go (by rfl) ?_
   refine wp_box_new 164 _ rfl (wkR m r A c s t 0 0) rfl ?_
   refine hK.out _ _ (HKP.out _ _ hS0 (new_at _ _).1) (fun hHeld=>?_)
   clear hK K
   (try simp only [Act.put,List.setIfInBounds_toArray,List.set_cons_zero,List.set_cons_succ])
   refine wpAnyH_take (i:=11) (v:=?_) (by simp only [List.getElem?_toArray,List.getElem?_cons_succ,List.getElem?_cons_zero];rfl) (by kernel_rfl) (by kernel_rfl) (by kernel_rfl) (by exact fun _ _ _ h=>h) (Or.inl ⟨by rfl,?_⟩) (by assumption) ?_
   rotate_left
   ·(intro w hSw;(try dsimp only at hSw);go_simp;(try with_reducible rfl))
   (try simp only [Act.put,List.setIfInBounds_toArray,List.set_cons_zero,List.set_cons_succ])
   refine wpAnyH_done (by kernel_rfl) ?_ _
   go_wp2_with fail
   go_meet
   exact ⟨w4.heap.size,rfl,(new_at w4.drew _).2,below_lift (Below.refl _ w4).drew (new_at w4.drew _).1,HB.out.size,by omega,by omega,by omega,by omega⟩
 case rest =>
  obtain ⟨g,rfl,hrg,hbc,hwg,hn1,hn2,hn3,hn4⟩:=hcut
  have HB5:=Lib.hid (below_lift HB.out hbc)
  have HR1:=Lib.hid (row_keep HK1.out hbc)
  have HR2:=Lib.hid (row_keep HK2.out hbc)
  have HR3:=Lib.hid (row_keep HK3.out hbc)
  have HR4:=Lib.hid (row_keep HK4.out hbc)
  have HRG:=Lib.hid hrg
  have HNG:=Lib.hid (show w.heap.size≤g∧h1≠g∧h2≠g∧h3≠g∧h4≠g from ⟨hwg,hn1,hn2,hn3,hn4⟩)
  have HA:=Lib.hid (HAH.out g t wc hrg (HTM.out.below (below_lift HB.out hbc)))
  clear hrg hbc hwg hn1 hn2 hn3 hn4 HB HK1 HK2 HK3 HK4 hg13 hg23 hg33 hg43 HAH HX hgt4
  go_wp2_with fail
  refine HA.out.mono ?_
  rintro e w6 ⟨rfl,hkb,hrg6⟩
  have HB6:=Lib.hid (show Below w.heap.size w w6 from HB5.out.trans ⟨hkb.strm.1,hkb.strm.2.1,hkb.strm.2.2,hkb.1,fun k hk=>hkb.2 k (Nat.lt_of_lt_of_le hk HB5.out.size) (fun e=>by have:=HNG.out.1;omega)⟩)
  have HR16:=Lib.hid (hkb.row HR1.out HNG.out.2.1)
  have HR26:=Lib.hid (hkb.row HR2.out HNG.out.2.2.1)
  have HR36:=Lib.hid (hkb.row HR3.out HNG.out.2.2.2.1)
  have HR46:=Lib.hid (hkb.row HR4.out HNG.out.2.2.2.2)
  have y0:=cellsX HR36.out 0 (.bool s.rest) rfl
  have y1:=cellsX HR36.out 1 (.int .i64 s.dep) rfl
  have y4:=cellsX HR36.out 4 (.int .i64 s.miles) rfl
  obtain ⟨n7,p7⟩:=new_at w6 (.cells (sheetQ none 0 ⟨s.rest,s.dep,[],0,s.miles⟩) 39)
  have HB7:=Lib.hid (below_lift HB6.out n7)
  have HRG7:=Lib.hid (row_keep hrg6 n7)
  have HR17:=Lib.hid (row_keep HR16.out n7)
  have HR27:=Lib.hid (row_keep HR26.out n7)
  have HR37:=Lib.hid (row_keep HR36.out n7)
  have HR47:=Lib.hid (row_keep HR46.out n7)
  have HNE:=Lib.hid (show h1≠w6.heap.size∧h2≠w6.heap.size∧h3≠w6.heap.size∧h4≠w6.heap.size∧g≠w6.heap.size∧w.heap.size≤w6.heap.size from ⟨Nat.ne_of_lt (lt_heap HR16.out),Nat.ne_of_lt (lt_heap HR26.out),Nat.ne_of_lt (lt_heap HR36.out),Nat.ne_of_lt (lt_heap HR46.out),Nat.ne_of_lt (lt_heap hrg6),HB6.out.size⟩)
  clear hkb hrg6 n7 HR1 HR2 HR3 HR4 HRG HB5 HA HR16 HR26 HR36 HR46
  go_upto_region 4 with fail
  rw [show w6.alloc (.cells #[.bool s.rest,.int .i64 s.dep,.slice none 0 0,.int .i64 0,.int .i64 s.miles] 39)=w6.alloc (.cells (sheetQ none 0 ⟨s.rest,s.dep,[],0,s.miles⟩) 39) from rfl]
  generalize w6.alloc (.cells (sheetQ none 0 ⟨s.rest,s.dep,[],0,s.miles⟩) 39)=w7 at *
  obtain ⟨gs,hgs⟩:∃ gs,gs=w6.heap.size:=⟨_,rfl⟩
  rw [← hgs] at p7 HNE
  rw [← hgs]
  have HR57:=Lib.hid p7
  obtain ⟨a0,a1,a2,a3,a4⟩:=cells5 p7
  clear y0 y1 y4 p7 hgs HB6
  have HTT:=Lib.hid (show Cells w7.drew A ((s.times.take n).flatMap timeC) from HTT.out.below (HB7.out.drew))
  have HTN:=Lib.hid (show A=none→c=0 from fun h=>HTC.out h)
  have hS0:(fun w'=>w'.heap[h3]? = some (.cells (sheetQ A c s) 39)) w7.drew:=HR37.out
  refine wp_region_held_drew (S:=fun w'=>w'.heap[h3]? = some (.cells (sheetQ A c s) 39)) (by kernel_rfl) hS0 (fun hHeld=>?_)
  refine wpAnyH_take (i:=0) (v:=?_) (by simp only [List.getElem?_toArray,List.getElem?_cons_zero];rfl) (by kernel_rfl) (by kernel_rfl) (by kernel_rfl) (by exact fun _ _ _ h=>h) (Or.inl ⟨by rfl,?_⟩) (by assumption) ?_
  rotate_left
  ·(intro w hSw;(try dsimp only at hSw);go_simp;(try with_reducible rfl))
  (try simp only [Act.put,List.setIfInBounds_toArray,List.set_cons_zero,List.set_cons_succ])
  refine wpAnyH_take (i:=2) (v:=?_) (by simp only [List.getElem?_toArray,List.getElem?_cons_succ,List.getElem?_cons_zero];rfl) (by kernel_rfl) (by kernel_rfl) (by kernel_rfl) (by exact fun _ _ _ h=>h) (Or.inl ⟨by rfl,?_⟩) (by assumption) ?_
  rotate_left
  ·(intro w hSw;(try dsimp only at hSw);go_simp;(try with_reducible rfl))
  (try simp only [Act.put,List.setIfInBounds_toArray,List.set_cons_zero,List.set_cons_succ])
  refine wpAnyH_take (i:=3) (v:=?_) (by simp only [List.getElem?_toArray,List.getElem?_cons_succ,List.getElem?_cons_zero];rfl) (by kernel_rfl) (by kernel_rfl) (by kernel_rfl) (by exact fun _ _ _ h=>h) (Or.inl ⟨by rfl,?_⟩) (by assumption) ?_
  rotate_left
  ·(intro w hSw;have q:=cellsX hSw 2 (.slice A s.times.length c) rfl;go_simp;(try with_reducible rfl))
  (try simp only [Act.put,List.setIfInBounds_toArray,List.set_cons_zero,List.set_cons_succ])
  refine wpAnyH_take (i:=4) (v:=?_) (by simp only [List.getElem?_toArray,List.getElem?_cons_succ,List.getElem?_cons_zero];rfl) (by kernel_rfl) (by kernel_rfl) (by kernel_rfl) (by exact fun _ _ _ h=>h) (Or.inl ⟨by rfl,?_⟩) (by assumption) ?_
  rotate_left
  ·(intro w hSw;(try dsimp only at hSw);go_simp;(try with_reducible rfl))
  (try simp only [Act.put,List.setIfInBounds_toArray,List.set_cons_zero,List.set_cons_succ])
  refine wpAnyH_take (i:=5) (v:=?_) (by simp only [List.getElem?_toArray,List.getElem?_cons_succ,List.getElem?_cons_zero];rfl) (by kernel_rfl) (by kernel_rfl) (by kernel_rfl) (by exact fun _ _ _ h=>h) (Or.inl ⟨by rfl,?_⟩) (by assumption) ?_
  rotate_left
  ·(intro w hSw;(try dsimp only at hSw);go_simp;(try with_reducible rfl))
  (try simp only [Act.put,List.setIfInBounds_toArray,List.set_cons_zero,List.set_cons_succ])
  refine wpAnyH_ready (rs:=[1]) (by kernel_rfl) (by simp) (AllReadyH.cons (by simp only [List.getElem?_toArray,List.getElem?_cons_succ,List.getElem?_cons_zero];rfl) (fun K hK=>?_) AllReadyH.nil)
  go_simp
  refine hK.out _ _ (by assumption) (fun hHeld=>?_)
  clear hK K
  (try simp only [Act.put,List.setIfInBounds_toArray,List.set_cons_zero,List.set_cons_succ])
  refine wpAnyH_ready (rs:=[6]) (by kernel_rfl) (by simp) (AllReadyH.cons (by simp only [List.getElem?_toArray,List.getElem?_cons_succ,List.getElem?_cons_zero];rfl) (fun K hK=>?_) AllReadyH.nil)
  refine step_appm el_tm rfl _ _ rfl w.heap.size none 0 0 [] w7.drew A n c ((s.times.take n).flatMap timeC) rfl (OwnR.nil _ _ _ _) rfl HTT.out (fun h=>by have:=HTN.out h;exact this) (by rw [tm_len,List.length_take,Nat.min_eq_left hnl]) tm_one (by unfold maxLen;omega) (by omega) HB7.out.size ?_
  intro A5 c5 w8 hown8 hb8 hkp8
  rw [Nat.zero_add] at hown8 ⊢
  rw [List.nil_append] at hown8
  have hall:∀ (k:Nat) (cs:Array Value) (ty:TypeId),w7.heap[k]? = some (.cells cs ty)→w8.heap[k]? = some (.cells cs ty):=fun k cs ty h=>hkp8.row (w:=w7.drew) h (fun _ _ e=>by cases e)
  have p5:=hall _ _ _ HR57.out
  obtain ⟨e0,e1,e2,e3,e4⟩:=cells5 p5
  have f2:=frz p5 2
  refine hK.out _ _ (hall _ _ _ HR37.out) (fun hHeld5=>?_)
  clear hK K
  (try simp only [Act.put,List.setIfInBounds_toArray,List.set_cons_zero,List.set_cons_succ])
  refine wpAnyH_take (i:=7) (v:=?_) (by simp only [List.getElem?_toArray,List.getElem?_cons_succ,List.getElem?_cons_zero];rfl) (by kernel_rfl) (by kernel_rfl) (by kernel_rfl) (by exact fun _ _ _ h=>h) (Or.inl ⟨by rfl,?_⟩) (by assumption) ?_
  rotate_left
  ·(intro w hSw;(try dsimp only at hSw);go_simp;(try with_reducible rfl))
  (try simp only [Act.put,List.setIfInBounds_toArray,List.set_cons_zero,List.set_cons_succ])
  refine wpAnyH_ready (rs:=[8]) (by kernel_rfl) (by simp) (AllReadyH.cons (by simp only [List.getElem?_toArray,List.getElem?_cons_succ,List.getElem?_cons_zero];rfl) (fun K hK=>?_) AllReadyH.nil)
  go_simp
  refine hK.out _ _ (((KpB.refl gs w8).store 2 (.slice A5 n c5)).row (hall _ _ _ HR37.out) HNE.out.2.2.1) (fun hHeld6=>?_)
  clear hK K
  (try simp only [Act.put])
  refine wpAnyH_done (by kernel_rfl) ?_ _
  have hln:(s.times.take n).length=n:=by rw [List.length_take,Nat.min_eq_left hnl]
  obtain ⟨sh9,hsh9⟩:∃ sh:SheetV,sh=⟨s.rest,s.dep,s.times.take n,0,s.miles⟩:=⟨_,rfl⟩
  have HLT:=Lib.hid (show LtS m r A c s t w g gs (w8.setCell ⟨gs,2,none⟩ (.slice A5 n c5)) dn en A5 c5 sh9 from by
   have hk:=(KpB.refl gs w8).store 2 (.slice A5 n c5)
   have ho8:TmO w8 w.heap.size A5 c5 (s.times.take n):=by show OwnR _ _ _ _ _ _ _ _;rw [hln];exact hown8
   subst hsh9
   refine ⟨hk.row (hall _ _ _ HRG7.out) HNE.out.2.2.2.2.1,?_,OwnR.keptB ho8 hk p5 tm_sh,(HB7.out.trans (show Below w.heap.size w7 w8 from ((Below.refl w7.heap.size w7).drew.mono HB7.out.size).trans hb8)).setCell HNE.out.2.2.2.2.2 _,⟨HNE.out.2.2.2.2.1,HNG.out.1,HNE.out.2.2.2.2.2⟩⟩
   rw [heap_put p5]
   show some (Obj.cells _ _ _)=some (Obj.cells (sheetQ A5 c5 ⟨s.rest,s.dep,s.times.take n,0,s.miles⟩) _ _)
   unfold sheetQ
   simp only [hln]
   rfl)
  have HLN9:=Lib.hid (show sh9.times.length=n by rw [hsh9];exact hln)
  have hrow9:∀ (k:Nat) (cs:Array Value) (ty:TypeId),w7.heap[k]? = some (.cells cs ty)→k≠gs→(w8.setCell ⟨gs,2,none⟩ (.slice A5 n c5)).heap[k]? = some (.cells cs ty):=fun k cs ty h hne=>((KpB.refl gs w8).store 2 (.slice A5 n c5)).row (hall _ _ _ h) hne
  have HR19:=Lib.hid (hrow9 _ _ _ HR17.out HNE.out.1)
  have HR29:=Lib.hid (hrow9 _ _ _ HR27.out HNE.out.2.1)
  have HR39:=Lib.hid (hrow9 _ _ _ HR37.out HNE.out.2.2.1)
  have HR49:=Lib.hid (hrow9 _ _ _ HR47.out HNE.out.2.2.2.1)
  clear hown8 hb8 hkp8 hall p5 e0 e1 e2 e3 e4 f2 hHeld5 hHeld6 hS0 hrow9 hsh9 hln a0 a1 a2 a3 a4 HR17 HR27 HR37 HR47 HRG7 HR57 HB7
  generalize w8.setCell ⟨gs,2,none⟩ (.slice A5 n c5)=w9 at *
  have y3:=cellsX HR39.out 3 (.int .i64 s.fin) rfl
  have y2:=cellsX HR39.out 2 (.slice A s.times.length c) rfl
  have r3:=cellsX HR29.out 3 (.slice r.C r.r.vis.length r.cc) rfl
  go_upto_if 57 with (fail)
  go_cut [14] (fun x wx=>x=.int .i64 (an+ticks)∧wx=w9)
  case first =>
   as_aux_lemma =>
    by_cases hnv:n<r.r.vis.length
    ·have hnv1:(n:Int)<(r.r.vis.length:Int):=by omega
     have hns:n<s.times.length:=by have h1:=HSL.out;have h2:=HPL.out;omega
     have hns1:(n:Int)<(s.times.length:Int):=by omega
     obtain ⟨gx,ox,hA5,hgx,hx5⟩:=elemsP timeC_len (by decide) (HTM.out.below HLT.out.bel).1 (by omega)
     have x0:=hx5 n hns 0 _ rfl
     rw [Nat.add_zero] at x0
     have hae:s.times[n].arr=an:=by have h:=HAR.out;unfold arrAt at h;rw [List.getElem?_eq_getElem hns] at h;exact h
     rw [hae] at x0
     rw [hA5] at y2
     clear hx5 hA5 hae hnv
     go_wp2_with fail
     go_meet
     exact ⟨rfl,rfl⟩
    ·have hnv1:¬ (n:Int)<(r.r.vis.length:Int):=by omega
     have hae:s.fin=an:=by have h:=HAR.out;unfold arrAt at h;rw [List.getElem?_eq_none (by have h1:=HSL.out;have h2:=HPL.out;omega)] at h;exact h
     have HAE:=Lib.hid hae
     clear hae hnv
     go_wp2_with fail
     go_meet
     exact ⟨by rw [HAE.out],rfl⟩
  case rest =>
   obtain ⟨rfl,hwc⟩:=hcut
   obtain rfl:=hwc.symm
   clear y3 y2 r3
   obtain ⟨R,hR⟩:∃ R,lateP p s n ticks=R:=⟨_,rfl⟩
   have HRR:=Lib.hid hR
   have HF0:=Lib.hid (show lateF p s (p.stops.length+1 - n) n (an+ticks) dn en=R by rw [← hR];unfold lateP;rw [HAR.out,HDN.out,HEN.out])
   have HTRIP:=Lib.hid (HP.out.ok HO.out)
   clear hR
   go_wp2_with fail
   go_loopw [14,15] (fun a j wr=>∃ (i:Nat) (arr d2 e2:Int) (A2:Option Addr) (c2:Nat) (sh:SheetV),i≤p.stops.length∧j=.int .i64 i∧a=.int .i64 arr∧LtS m r A c s t w g gs wr d2 e2 A2 c2 sh∧sh.times.length≤i∧(0≤arr∧arr≤200000)∧(-200000 - 20000*(i:Int)≤d2∧d2≤4096)∧(0≤e2∧e2≤20000)∧lateF p s (p.stops.length+1 - i) i arr d2 e2=R∧wr.heap[h1]? = some (.cells (insQ m) 30)∧wr.heap[h2]? = some (.cells (rouR r) 34)∧wr.heap[h4]? = some (.cells (sheetQ none 0 shZ) 39)) (fun _ j _=>p.stops.length+1 - (intOf j).toNat)
   case atStart=>exact ⟨n,an+ticks,dn,en,A5,c5,sh9,hnp,rfl,rfl,HLT.out,by rw [HLN9.out];exact Nat.le_refl _,by omega,by omega,by omega,HF0.out,HR19.out,HR29.out,HR49.out⟩
   case round =>
    clear HF0 HR19 HR29 HR39 HR49 HLT
    obtain ⟨i,arr,d2,e2,A2,c2,sh,hi,rfl,rfl,hlt',hsl',⟨ha0,ha1⟩,⟨hd0,hd1⟩,⟨he0,he1⟩,hF,hr1,hr2,hr4⟩:=hrel
    have HLT:=Lib.hid hlt'
    have HF:=Lib.hid hF
    have HR1:=Lib.hid hr1
    have HR2:=Lib.hid hr2
    have HR4:=Lib.hid hr4
    obtain ⟨f,hf⟩:∃ f,p.stops.length+1 - i=f+1:=⟨p.stops.length - i,by omega⟩
    have HFF:=Lib.hid hf
    have hir:i≤r.r.vis.length:=by have:=HPL.out;omega
    have HAV:=Lib.hid (warrive_any w g gs i arr d2 e2 A2 c2 sh p wr hlt' HM.out HO.out HR.out HP.out HTP.out HTM.out HSL.out hir hvl (by omega) ⟨ha0,ha1⟩ ⟨by omega,by omega⟩ ⟨he0,by omega⟩)
    clear hlt' hF hr1 hr2 hr4 hf
    go_wp2_with fail
    refine HAV.out.mono ?_
    rintro x wz ⟨k,rfl,hrk,hbz,hiff,hyes⟩
    have HZ1:=Lib.hid (hrk h1 _ _ HR1.out (by decide) HNG.out.2.1 HNE.out.1)
    have HZ2:=Lib.hid (hrk h2 _ _ HR2.out (by decide) HNG.out.2.2.1 HNE.out.2.1)
    have HZ4:=Lib.hid (hrk h4 _ _ HR4.out (by decide) HNG.out.2.2.2.2 HNE.out.2.2.2.1)
    have HBZ:=Lib.hid hbz
    have HYES:=Lib.hid hyes
    clear hrk hbz hyes HAV HR1 HR2 HR4 HLT
    cases hokb:okA p i arr (d2+(arr - e2)) with
    |false =>
     have hk0:k≠0:=fun h=>by have:=hiff.1 h;rw [hokb] at this;cases this
     have hkb:(k != 0)=true:=by simpa using hk0
     have HNO:=Lib.hid (show lateP p s n ticks=false by rw [HRR.out,← HF.out,HFF.out];exact lateF_no hokb)
     have HK0:=Lib.hid hk0
     have HS:=Lib.hid (row_set (sheetQ none 0 shZ) HZ4.out HBZ.out HG4.out)
     clear hokb hiff hk0
     go_wp2_with (refine wpList_store_row rfl 39 _ _ rfl h4 (sheetQ none 0 shZ) rfl rfl 39 _ HZ4.out (by kernel_rfl) rfl (by kernel_rfl) ?_)
     refine bodyPost_ret (res_row rfl (ld_sheet HS.out.1) rfl rfl) rfl ?_
     exact LateE.no HK0.out HNO.out HS.out.2
    |true =>
     obtain rfl:k=0:=hiff.2 hokb
     obtain ⟨A3,c3,sh3,hl3,hs3⟩:=HYES.out rfl
     have r3:=cellsX HZ2.out 3 (.slice r.C r.r.vis.length r.cc) rfl
     cases hst:p.stops[i]? with
     |none =>
      have hie:i=r.r.vis.length:=by have:=List.getElem?_eq_none_iff.1 hst;have:=HPL.out;omega
      have hib:=int_bt (show (i:Int)=(r.r.vis.length:Int) by omega)
      have HYS:=Lib.hid (show lateP p s n ticks=true by rw [HRR.out,← HF.out,HFF.out];exact lateF_end hst hokb)
      have HL3:=Lib.hid hl3
      have HS:=Lib.hid (row_set (sheetQ A3 c3 sh3) HZ4.out HBZ.out HG4.out)
      clear hokb hiff hl3 hst hie HYES hs3
      go_wp2_with (first | (refine wpList_load_row rfl 39 _ rfl gs rfl 39 _ _ _ HL3.out.rs Tryz.underlying39 rfl (by kernel_rfl) ?_) | (refine wpList_store_row rfl 39 _ _ rfl h4 (sheetQ A3 c3 sh3) rfl rfl 39 _ HZ4.out (by kernel_rfl) rfl (by kernel_rfl) ?_))
      refine bodyPost_ret (res_row rfl (ld_sheet HS.out.1) rfl rfl) rfl ?_
      exact LateE.yes HYS.out HS.out.2
     |some st =>
      have hip:i<p.stops.length:=(List.getElem?_eq_some_iff.1 hst).1
      have hib:=int_bf (show ¬ (i:Int)=(r.r.vis.length:Int) by have:=HPL.out;omega)
      have hir1:i+1≤r.r.vis.length:=by have:=HPL.out;omega
      obtain ⟨⟨eb3,eb4⟩,hdd⟩:=af_b (s:=s) (e:=e2) HTRIP.out hst hokb ha0
      have hdr3:=okA_b hokb
      have hep:endP p i=st.place:=by unfold endP;rw [hst]
      obtain ⟨ga,gm,gz,hg⟩:∃ ga gm gz,goP p.x p.t.prof st.place (endP p (i+1)) (afE p s i arr e2)=(ga,gm,gz):=⟨_,_,_,rfl⟩
      have HFN:=Lib.hid (lateF_step (f:=f) hst hokb hg)
      have HFE:=Lib.hid (show lateF p s (f+1) i arr d2 e2=R by rw [← HFF.out];exact HF.out)
      have hgb:=goP_bound HTRIP.out.x p.t.prof st.place (endP p (i+1)) eb3
      rw [hg] at hgb
      simp only at hgb
      have hfl:p.stops.length+1 - (i+1)=f:=by have:=HFF.out;omega
      have HFL:=Lib.hid hfl
      have hd3b:-200000 - 20000*((i+1:Nat):Int)≤afD p s i (d2+(arr - e2))∧afD p s i (d2+(arr - e2))≤4096:=by
       rcases hdd with h | h <;> rw [h] <;> omega
      generalize hd3:afD p s i (d2+(arr - e2))=d3 at *
      generalize he3:afE p s i arr e2=e3 at *
      have HLZ:=Lib.hid hl3
      have HP1:=Lib.hid (fun w' (hgr:w'.heap[g]? = some (.cells (wkR m r A c s t d3 e3) 164)) (hb:Below wz.heap.size wz w')=>(wplace_any (m:=m) (r:=r) (A:=A) (c:=c) (s:=s) (t:=t) (d:=d3) (e:=e3) g i p w' hgr (HM.out.below (below_lift HBZ.out hb)) HO.out (HR.out.below (below_lift HBZ.out hb)) HP.out HTP.out hir hvl))
      have HP2:=Lib.hid (fun w' (hgr:w'.heap[g]? = some (.cells (wkR m r A c s t d3 e3) 164)) (hb:Below wz.heap.size wz w')=>(wplace_any (m:=m) (r:=r) (A:=A) (c:=c) (s:=s) (t:=t) (d:=d3) (e:=e3) g (i+1) p w' hgr (HM.out.below (below_lift HBZ.out hb)) HO.out (HR.out.below (below_lift HBZ.out hb)) HP.out HTP.out hir1 hvl))
      have HGO:=Lib.hid (fun (w':World) (hb:Below wz.heap.size wz w')=>(ngo_any m t.t.prof (endP p i) (endP p (i+1)) e3 w' (HM.out.below (below_lift HBZ.out hb)) HO.out ⟨eb3,by omega⟩ (HT.out.below (below_lift HBZ.out hb))).mono (fun x w2 hx=>(by unfold GoE at hx;rw [hep,HTP.out,← HP.out.x,hg] at hx;exact hx:x=.returned (.tuple #[.int .i64 ga,.int .i64 gm,.int .i64 gz])∧Below w'.heap.size w' w2)))
      generalize endP p i=pl1 at *
      generalize endP p (i+1)=pl2 at *
      clear hokb hiff hl3 hst hg hdd hdr3 hep hd3 he3 HYES hfl
      go_upto_region 15 with fail
      clear r3
      have HKP:=Lib.hid (show ∀ w' w2,(w'.heap[g]? = some (.cells (wkR m r A c s t d3 e3) 164)∧w'.heap[h1]? = some (.cells (insQ m) 30)∧Below wz.heap.size wz w')→Below w'.heap.size w' w2→(w2.heap[g]? = some (.cells (wkR m r A c s t d3 e3) 164)∧w2.heap[h1]? = some (.cells (insQ m) 30)∧Below wz.heap.size wz w2) from fun w' w2 ⟨q0,q1,q2⟩ hb=>⟨row_keep q0 hb,row_keep q1 hb,below_lift q2 hb⟩)
      have hS0:(fun w'=>w'.heap[g]? = some (.cells (wkR m r A c s t d3 e3) 164)∧w'.heap[h1]? = some (.cells (insQ m) 30)∧Below wz.heap.size wz w') wz.drew:=⟨HLZ.out.rg,HZ1.out,(Below.refl _ wz).drew⟩
      refine wp_region_held_drew (S:=fun w'=>w'.heap[g]? = some (.cells (wkR m r A c s t d3 e3) 164)∧w'.heap[h1]? = some (.cells (insQ m) 30)∧Below wz.heap.size wz w') (by kernel_rfl) hS0 (fun hHeld=>?_)
      refine wpAnyH_take (i:=0) (v:=?_) (by simp only [List.getElem?_toArray,List.getElem?_cons_zero];rfl) (by kernel_rfl) (by kernel_rfl) (by kernel_rfl) (by exact fun _ _ _ h=>h) (Or.inl ⟨by rfl,?_⟩) (by assumption) ?_
      rotate_left
      ·(intro w hSw;(try dsimp only at hSw);go_simp;(try with_reducible rfl))
      (try simp only [Act.put,List.setIfInBounds_toArray,List.set_cons_zero,List.set_cons_succ])
      refine wpAnyH_take (i:=1) (v:=?_) (by simp only [List.getElem?_toArray,List.getElem?_cons_succ,List.getElem?_cons_zero];rfl) (by kernel_rfl) (by kernel_rfl) (by kernel_rfl) (by exact fun _ _ _ h=>h) (Or.inl ⟨by rfl,?_⟩) (by assumption) ?_
      rotate_left
      ·(intro w hSw;have q0:=cellsX hSw.2.1 0 (.slice m.pA m.places.length m.pc) rfl;have q1:=cellsX hSw.2.1 1 (.slice m.aA m.arcs.length m.ac) rfl;go_simp;(try with_reducible rfl))
      (try simp only [Act.put,List.setIfInBounds_toArray,List.set_cons_zero,List.set_cons_succ])
      refine wpAnyH_take (i:=2) (v:=?_) (by simp only [List.getElem?_toArray,List.getElem?_cons_succ,List.getElem?_cons_zero];rfl) (by kernel_rfl) (by kernel_rfl) (by kernel_rfl) (by exact fun _ _ _ h=>h) (Or.inl ⟨by rfl,?_⟩) (by assumption) ?_
      rotate_left
      ·(intro w hSw;(try dsimp only at hSw);go_simp;(try with_reducible rfl))
      (try simp only [Act.put,List.setIfInBounds_toArray,List.set_cons_zero,List.set_cons_succ])
      refine wpAnyH_take (i:=3) (v:=?_) (by simp only [List.getElem?_toArray,List.getElem?_cons_succ,List.getElem?_cons_zero];rfl) (by kernel_rfl) (by kernel_rfl) (by kernel_rfl) (by exact fun _ _ _ h=>h) (Or.inl ⟨by rfl,?_⟩) (by assumption) ?_
      rotate_left
      ·(intro w hSw;(try dsimp only at hSw);go_simp;(try with_reducible rfl))
      (try simp only [Act.put,List.setIfInBounds_toArray,List.set_cons_zero,List.set_cons_succ])
      refine wpAnyH_take (i:=4) (v:=?_) (by simp only [List.getElem?_toArray,List.getElem?_cons_succ,List.getElem?_cons_zero];rfl) (by kernel_rfl) (by kernel_rfl) (by kernel_rfl) (by exact fun _ _ _ h=>h) (Or.inl ⟨by rfl,?_⟩) (by assumption) ?_
      rotate_left
      ·(intro w hSw;(try dsimp only at hSw);go_simp;(try with_reducible rfl))
      (try simp only [Act.put,List.setIfInBounds_toArray,List.set_cons_zero,List.set_cons_succ])
      refine wpAnyH_take (i:=5) (v:=?_) (by simp only [List.getElem?_toArray,List.getElem?_cons_succ,List.getElem?_cons_zero];rfl) (by kernel_rfl) (by kernel_rfl) (by kernel_rfl) (by exact fun _ _ _ h=>h) (Or.inl ⟨by rfl,?_⟩) (by assumption) ?_
      rotate_left
      ·(intro w hSw;(try dsimp only at hSw);go_simp;(try with_reducible rfl))
      (try simp only [Act.put,List.setIfInBounds_toArray,List.set_cons_zero,List.set_cons_succ])
      refine wpAnyH_take (i:=6) (v:=?_) (by simp only [List.getElem?_toArray,List.getElem?_cons_succ,List.getElem?_cons_zero];rfl) (by kernel_rfl) (by kernel_rfl) (by kernel_rfl) (by exact fun _ _ _ h=>h) (Or.inl ⟨by rfl,?_⟩) (by assumption) ?_
      rotate_left
      ·(intro w hSw;have q0:=cellsX hSw.1 21 (.int .i64 t.t.prof) rfl;go_simp;(try with_reducible rfl))
      (try simp only [Act.put,List.setIfInBounds_toArray,List.set_cons_zero,List.set_cons_succ])
      refine wpAnyH_take (i:=7) (v:=?_) (by simp only [List.getElem?_toArray,List.getElem?_cons_succ,List.getElem?_cons_zero];rfl) (by kernel_rfl) (by kernel_rfl) (by kernel_rfl) (by exact fun _ _ _ h=>h) (Or.inl ⟨by rfl,?_⟩) (by assumption) ?_
      rotate_left
      ·(intro w hSw;(try dsimp only at hSw);go_simp;(try with_reducible rfl))
      (try simp only [Act.put,List.setIfInBounds_toArray,List.set_cons_zero,List.set_cons_succ])
      refine wpAnyH_take (i:=8) (v:=?_) (by simp only [List.getElem?_toArray,List.getElem?_cons_succ,List.getElem?_cons_zero];rfl) (by kernel_rfl) (by kernel_rfl) (by kernel_rfl) (by exact fun _ _ _ h=>h) (Or.inl ⟨by rfl,?_⟩) (by assumption) ?_
      rotate_left
      ·(intro w hSw;(try dsimp only at hSw);go_simp;(try with_reducible rfl))
      (try simp only [Act.put,List.setIfInBounds_toArray,List.set_cons_zero,List.set_cons_succ])
      refine wpAnyH_take (i:=10) (v:=?_) (by simp only [List.getElem?_toArray,List.getElem?_cons_succ,List.getElem?_cons_zero];rfl) (by kernel_rfl) (by kernel_rfl) (by kernel_rfl) (by exact fun _ _ _ h=>h) (Or.inl ⟨by rfl,?_⟩) (by assumption) ?_
      rotate_left
      ·(intro w hSw;(try dsimp only at hSw);go_simp;(try with_reducible rfl))
      (try simp only [Act.put,List.setIfInBounds_toArray,List.set_cons_zero,List.set_cons_succ])
      refine wpAnyH_take (i:=11) (v:=?_) (by simp only [List.getElem?_toArray,List.getElem?_cons_succ,List.getElem?_cons_zero];rfl) (by kernel_rfl) (by kernel_rfl) (by kernel_rfl) (by exact fun _ _ _ h=>h) (Or.inl ⟨by rfl,?_⟩) (by assumption) ?_
      rotate_left
      ·(intro w hSw;(try dsimp only at hSw);go_simp;(try with_reducible rfl))
      (try simp only [Act.put,List.setIfInBounds_toArray,List.set_cons_zero,List.set_cons_succ])
      refine wpAnyH_take (i:=12) (v:=?_) (by simp only [List.getElem?_toArray,List.getElem?_cons_succ,List.getElem?_cons_zero];rfl) (by kernel_rfl) (by kernel_rfl) (by kernel_rfl) (by exact fun _ _ _ h=>h) (Or.inl ⟨by rfl,?_⟩) (by assumption) ?_
      rotate_left
      ·(intro w hSw;have hw:=wrap_succ (n:=i) (by omega);go_simp;(try with_reducible rfl))
      (try simp only [Act.put,List.setIfInBounds_toArray,List.set_cons_zero,List.set_cons_succ])
      refine wpAnyH_take (i:=14) (v:=?_) (by simp only [List.getElem?_toArray,List.getElem?_cons_succ,List.getElem?_cons_zero];rfl) (by kernel_rfl) (by kernel_rfl) (by kernel_rfl) (by exact fun _ _ _ h=>h) (Or.inl ⟨by rfl,?_⟩) (by assumption) ?_
      rotate_left
      ·(intro w hSw;(try dsimp only at hSw);go_simp;(try with_reducible rfl))
      (try simp only [Act.put,List.setIfInBounds_toArray,List.set_cons_zero,List.set_cons_succ])
      refine wpAnyH_take (i:=15) (v:=?_) (by simp only [List.getElem?_toArray,List.getElem?_cons_succ,List.getElem?_cons_zero];rfl) (by kernel_rfl) (by kernel_rfl) (by kernel_rfl) (by exact fun _ _ _ h=>h) (Or.inl ⟨by rfl,?_⟩) (by assumption) ?_
      rotate_left
      ·(intro w hSw;(try dsimp only at hSw);go_simp;(try with_reducible rfl))
      (try simp only [Act.put,List.setIfInBounds_toArray,List.set_cons_zero,List.set_cons_succ])
      refine wpAnyH_take (i:=16) (v:=?_) (by simp only [List.getElem?_toArray,List.getElem?_cons_succ,List.getElem?_cons_zero];rfl) (by kernel_rfl) (by kernel_rfl) (by kernel_rfl) (by exact fun _ _ _ h=>h) (Or.inl ⟨by rfl,?_⟩) (by assumption) ?_
      rotate_left
      ·(intro w hSw;(try dsimp only at hSw);go_simp;(try with_reducible rfl))
      (try simp only [Act.put,List.setIfInBounds_toArray,List.set_cons_zero,List.set_cons_succ])
      refine wpAnyH_take (i:=17) (v:=?_) (by simp only [List.getElem?_toArray,List.getElem?_cons_succ,List.getElem?_cons_zero];rfl) (by kernel_rfl) (by kernel_rfl) (by kernel_rfl) (by exact fun _ _ _ h=>h) (Or.inl ⟨by rfl,?_⟩) (by assumption) ?_
      rotate_left
      ·(intro w hSw;have q0:=cellsX hSw.1 30 (.int .i64 e3) rfl;go_simp;(try with_reducible rfl))
      (try simp only [Act.put,List.setIfInBounds_toArray,List.set_cons_zero,List.set_cons_succ])
      refine wpAnyH_ready (rs:=[9]) (by kernel_rfl) (by simp) (AllReadyH.cons (by simp only [List.getElem?_toArray,List.getElem?_cons_succ,List.getElem?_cons_zero];rfl) (fun K hK=>?_) AllReadyH.nil)
      go_simp
      refine (HP1.out _ hS0.1 hS0.2.2).mono ?_
      rintro x wy ⟨rfl,hby⟩
      have hS1:=HKP.out _ _ hS0 hby
      refine hK.out _ _ (hS1) (fun hHeld=>?_)
      clear hK K
      (try simp only [Act.put,List.setIfInBounds_toArray,List.set_cons_zero,List.set_cons_succ])
      refine wpAnyH_ready (rs:=[13]) (by kernel_rfl) (by simp) (AllReadyH.cons (by simp only [List.getElem?_toArray,List.getElem?_cons_succ,List.getElem?_cons_zero];rfl) (fun K hK=>?_) AllReadyH.nil)
      go_simp
      refine (HP2.out _ hS1.1 hS1.2.2).mono ?_
      rintro x wx ⟨rfl,hbx⟩
      have hS2:=HKP.out _ _ hS1 hbx
      refine hK.out _ _ (hS2) (fun hHeld=>?_)
      clear hK K
      (try simp only [Act.put,List.setIfInBounds_toArray,List.set_cons_zero,List.set_cons_succ])
      refine wpAnyH_ready (rs:=[18]) (by kernel_rfl) (by simp) (AllReadyH.cons (by simp only [List.getElem?_toArray,List.getElem?_cons_succ,List.getElem?_cons_zero];rfl) (fun K hK=>?_) AllReadyH.nil)
      go_simp
      refine (HGO.out _ hS2.2.2).mono ?_
      rintro x wv ⟨rfl,hbv⟩
      have hS3:=HKP.out _ _ hS2 hbv
      refine hK.out _ _ (hS3) (fun hHeld=>?_)
      clear hK K
      (try simp only [Act.put,List.setIfInBounds_toArray,List.set_cons_zero,List.set_cons_succ])
      refine wpAnyH_take (i:=19) (v:=?_) (by simp only [List.getElem?_toArray,List.getElem?_cons_succ,List.getElem?_cons_zero];rfl) (by kernel_rfl) (by kernel_rfl) (by kernel_rfl) (by exact fun _ _ _ h=>h) (Or.inl ⟨by rfl,?_⟩) (by assumption) ?_
      rotate_left
      ·(intro w hSw;(try dsimp only at hSw);go_simp;(try with_reducible rfl))
      (try simp only [Act.put,List.setIfInBounds_toArray,List.set_cons_zero,List.set_cons_succ])
      refine wpAnyH_take (i:=20) (v:=?_) (by simp only [List.getElem?_toArray,List.getElem?_cons_succ,List.getElem?_cons_zero];rfl) (by kernel_rfl) (by kernel_rfl) (by kernel_rfl) (by exact fun _ _ _ h=>h) (Or.inl ⟨by rfl,?_⟩) (by assumption) ?_
      rotate_left
      ·(intro w hSw;(try dsimp only at hSw);go_simp;(try with_reducible rfl))
      (try simp only [Act.put,List.setIfInBounds_toArray,List.set_cons_zero,List.set_cons_succ])
      refine wpAnyH_take (i:=21) (v:=?_) (by simp only [List.getElem?_toArray,List.getElem?_cons_succ,List.getElem?_cons_zero];rfl) (by kernel_rfl) (by kernel_rfl) (by kernel_rfl) (by exact fun _ _ _ h=>h) (Or.inl ⟨by rfl,?_⟩) (by assumption) ?_
      rotate_left
      ·(intro w hSw;(try dsimp only at hSw);go_simp;(try with_reducible rfl))
      (try simp only [Act.put,List.setIfInBounds_toArray,List.set_cons_zero,List.set_cons_succ])
      refine wpAnyH_take (i:=22) (v:=?_) (by simp only [List.getElem?_toArray,List.getElem?_cons_succ,List.getElem?_cons_zero];rfl) (by kernel_rfl) (by kernel_rfl) (by kernel_rfl) (by exact fun _ _ _ h=>h) (Or.inl ⟨by rfl,?_⟩) (by assumption) ?_
      rotate_left
      ·(intro w hSw;(try dsimp only at hSw);go_simp;(try with_reducible rfl))
      (try simp only [Act.put,List.setIfInBounds_toArray,List.set_cons_zero,List.set_cons_succ])
      refine wpAnyH_take (i:=23) (v:=?_) (by simp only [List.getElem?_toArray,List.getElem?_cons_succ,List.getElem?_cons_zero];rfl) (by kernel_rfl) (by kernel_rfl) (by kernel_rfl) (by exact fun _ _ _ h=>h) (Or.inl ⟨by rfl,?_⟩) (by assumption) ?_
      rotate_left
      ·(intro w hSw;(try dsimp only at hSw);go_simp;(try with_reducible rfl))
      (try simp only [Act.put,List.setIfInBounds_toArray,List.set_cons_zero,List.set_cons_succ])
      refine wpAnyH_take (i:=24) (v:=?_) (by simp only [List.getElem?_toArray,List.getElem?_cons_succ,List.getElem?_cons_zero];rfl) (by kernel_rfl) (by kernel_rfl) (by kernel_rfl) (by exact fun _ _ _ h=>h) (Or.inl ⟨by rfl,?_⟩) (by assumption) ?_
      rotate_left
      ·(intro w hSw;(try dsimp only at hSw);go_simp;(try with_reducible rfl))
      (try simp only [Act.put,List.setIfInBounds_toArray,List.set_cons_zero,List.set_cons_succ])
      refine wpAnyH_take (i:=25) (v:=?_) (by simp only [List.getElem?_toArray,List.getElem?_cons_succ,List.getElem?_cons_zero];rfl) (by kernel_rfl) (by kernel_rfl) (by kernel_rfl) (by exact fun _ _ _ h=>h) (Or.inl ⟨by rfl,?_⟩) (by assumption) ?_
      rotate_left
      ·(intro w hSw;(try dsimp only at hSw);go_simp;(try with_reducible rfl))
      (try simp only [Act.put,List.setIfInBounds_toArray,List.set_cons_zero,List.set_cons_succ])
      refine wpAnyH_done (by kernel_rfl) ?_ _
      have HLV:=Lib.hid (HLZ.out.below hS3.2.2)
      have HV1:=Lib.hid hS3.2.1
      have HV2:=Lib.hid (row_keep HZ2.out hS3.2.2)
      have HV4:=Lib.hid (row_keep HZ4.out hS3.2.2)
      have HBV:=Lib.hid (below_lift HBZ.out hS3.2.2)
      clear hS0 hS1 hS2 hS3 hby hbx hbv HKP HP1 HP2 HGO HZ1 HZ2 HZ4 HBZ HLZ
      by_cases hz:gz=0
      ·subst hz
       have HFZ:=Lib.hid (show lateF p s f (i+1) ga d3 e3=R by rw [← HFE.out,HFN.out,if_neg (by simp)])
       go_wp2_with fail
       go_roundw
       case rel=>exact ⟨i+1,ga,d3,e3,A3,c3,sh3,by omega,by go_num,rfl,HLV.out,by omega,by omega,by omega,by omega,by rw [HFL.out];exact HFZ.out,HV1.out,HV2.out,HV4.out⟩
       case measure=>simp [intOf];omega
      ·have hzb:=int_bf hz
       have HNO:=Lib.hid (show lateP p s n ticks=false by rw [HRR.out,← HFE.out,HFN.out,if_pos hz])
       have HKZ:=Lib.hid hz
       have HS:=Lib.hid (row_set (sheetQ none 0 shZ) HV4.out HBV.out HG4.out)
       clear hz
       go_wp2_with (refine wpList_store_row rfl 39 _ _ rfl h4 (sheetQ none 0 shZ) rfl rfl 39 _ HV4.out (by kernel_rfl) rfl (by kernel_rfl) ?_)
       refine bodyPost_ret (res_row rfl (ld_sheet HS.out.1) rfl rfl) rfl ?_
       exact LateE.no HKZ.out HNO.out HS.out.2
end Go.Proofs.YtjcekdiocliddaaGreatDoor

/- slack's walker in memory; rests, stop, place. (Printed by wip/tk/mkTlU.py.) -/
import Derived.Test.YtjcekdiocliddaaGreatDoorG80
import Derived.BigRegion
namespace Go.Proofs.YtjcekdiocliddaaGreatDoor
open Go.RowKit Num Txt Pf Tk
set_option linter.unusedVariables false
attribute [local go_sem] B_size B_get B_toList B_mk B_extract B_append
theorem fld_place (s:StopV) (w:World):(Instr.field 134 (.agg #[.int .i64 s.place,.int .i64 s.opn,.int .i64 s.cls,.int .i64 s.serv]) 0).run Tryz.prog w=.ok (.int .i64 s.place) w:=by
 have h1:(Tryz.prog.info? 3).map (·.size)=some 1:=by kernel_rfl
 have h2:Tryz.prog.underlying 3=_:=Tryz.underlying3
 cases hq:Tryz.prog.info? 3 with
 |none=>rw [hq] at h1;cases h1
 |some i =>
  rw [hq] at h1
  have hs:i.size=1:=by simpa using h1
  simp [Instr.field,run_underlying Tryz.underlying134,part,asAgg,sizeOf,typeInfo,hq,hs,isAgg,run_underlying h2]
theorem fld_serv (s:StopV) (w:World):(Instr.field 134 (.agg #[.int .i64 s.place,.int .i64 s.opn,.int .i64 s.cls,.int .i64 s.serv]) 3).run Tryz.prog w=.ok (.int .i64 s.serv) w:=by
 have h1:(Tryz.prog.info? 3).map (·.size)=some 1:=by kernel_rfl
 have h2:Tryz.prog.underlying 3=_:=Tryz.underlying3
 cases hq:Tryz.prog.info? 3 with
 |none=>rw [hq] at h1;cases h1
 |some i =>
  rw [hq] at h1
  have hs:i.size=1:=by simpa using h1
  simp [Instr.field,run_underlying Tryz.underlying134,part,asAgg,sizeOf,typeInfo,hq,hs,isAgg,run_underlying h2]
def wkR (m:InsM) (r:RouM) (A:Option Addr) (c:Nat) (s:SheetV) (t:TypeM) (d e:Int):Array Value:=#[.slice m.pA m.places.length m.pc,.slice m.aA m.arcs.length m.ac,.slice m.tA m.types.length m.tc,.slice m.oA m.ords.length m.oc,.slice m.xA m.apart.length m.xc,.slice m.bA m.before.length m.bc,.int .i64 r.r.kind,.int .i64 r.r.start,.slice r.A r.r.rests.length r.ca,.slice r.C r.r.vis.length r.cc,.bool s.rest,.int .i64 s.dep,.slice A s.times.length c,.int .i64 s.fin,.int .i64 s.miles,.string (B t.t.name),.int .i64 t.t.count,.int .i64 t.t.frm,.int .i64 t.t.tgt,.slice t.A t.t.cap.length t.ca,.int .i64 t.t.skills,.int .i64 t.t.prof,.int .i64 t.t.opn,.int .i64 t.t.cls,.int .i64 t.t.drive,.int .i64 t.t.rest,.int .i64 t.t.fixed,.int .i64 t.t.mile,.int .i64 t.t.tick,.int .i64 d,.int .i64 e]
section
variable {m:InsM} {r:RouM} {A:Option Addr} {c:Nat} {s:SheetV} {t:TypeM} {d e:Int}
set_option maxHeartbeats 4000000 in
set_option maxRecDepth 100000 in
theorem wrests_any (g i:Nat) (w:World) (hg:w.heap[g]? = some (.cells (wkR m r A c s t d e) 164)) (ht:TmAt w A c s.times) (hi:i<s.times.length) (h8:s.times.length≤20) :
  Calls Tryz.prog 129 #[.pointer (some ⟨g,0,none⟩),.int .i64 i] w fun x w'=>x=.returned (.bool s.times[i].rest)∧w'=w:=by
 have y:=cellsX hg 12 (.slice A s.times.length c) rfl
 obtain ⟨hc,hn,hx9⟩:=ht
 clear hx9
 unfold maxLen at hn
 obtain ⟨g1,o1,hA1,hg1,hx1⟩:=elemsP timeC_len (by decide) hc (by omega)
 have x3:=hx1 i hi 3 _ rfl
 have hi1:(i:Int)<(s.times.length:Int):=by omega
 rw [hA1] at y
 clear hx1 hg hc hA1
 generalize s.times[i]=tv at *
 go_enter Tryz.func129,Tryz.ntmps129
 go_wp2_with fail
 go_ret
 exact ⟨rfl,rfl⟩
set_option maxHeartbeats 16000000 in
set_option maxRecDepth 100000 in
theorem wstop_any (g i:Nat) (st:StopV) (w:World) (hg:w.heap[g]? = some (.cells (wkR m r A c s t d e) 164)) (hm:InsAt w m) (hok:InsOK m.v) (hr:RouAt w r) (hi:i<r.r.vis.length) (hst:stopOf m.v r.r.vis[i]=some st) (h8:r.r.vis.length≤8) :
  Calls Tryz.prog 130 #[.pointer (some ⟨g,0,none⟩),.int .i64 i] w fun x w'=>x=.returned (stopA st)∧Below w.heap.size w w':=by
 have hno:m.ords.length≤3:=by have:=hok.no;unfold InsM.v at this;simpa using this
 have hrc:=hr.vl
 have hoc:=hm.ol
 obtain ⟨n1,p1⟩:=new_at w (.cells (stopR stop0) 134)
 have HB1:=Lib.hid n1
 have HP1:=Lib.hid p1
 have HG1:=Lib.hid (row_keep hg n1)
 have HM:=Lib.hid (hm.below n1)
 have HR:=Lib.hid (hr.below n1)
 obtain ⟨gv,ov,hA1,hgv,hx1⟩:=elemsP visC_len (by decide) HR.out.vis (by omega)
 have hvf:=HR.out.visF _ (List.getElem_mem hi)
 have hi1:(i:Int)<(r.r.vis.length:Int):=by omega
 have HX:=Lib.hid (show ∀ wz,Below (w.alloc (.cells (stopR stop0) 134)).heap.size (w.alloc (.cells (stopR stop0) 134)) wz→wz.cell? ⟨gv,ov+i*2,none⟩=some (.int .i64 r.r.vis[i].1)∧wz.cell? ⟨gv,ov+i*2+1,none⟩=some (.bool r.r.vis[i].2) from fun wz hb=>⟨(hb.cell (p:=⟨gv,ov+i*2,none⟩) hgv).trans (hx1 i hi 0 _ rfl),(hb.cell (p:=⟨gv,ov+i*2+1,none⟩) hgv).trans (hx1 i hi 1 _ rfl)⟩)
 have HA1:=Lib.hid hA1
 generalize r.r.vis[i]=v at *
 unfold maxLen at hrc hoc
 clear n1 p1 hg hm hr hx1 hA1
 go_enter Tryz.func130,Tryz.ntmps130
 (try simp only [B_mk])
 go_upto_region 1 with fail
 rw [show w.alloc (.cells #[.int .i64 0,.int .i64 0,.int .i64 0,.int .i64 0] 134)=w.alloc (.cells (stopR stop0) 134) from rfl]
 generalize w.alloc (.cells (stopR stop0) 134)=w1 at *
 obtain ⟨g1,hg1⟩:∃ g1,g1=w.heap.size:=⟨_,rfl⟩
 rw [← hg1] at HP1
 rw [← hg1]
 have HGG:=Lib.hid (show w.heap.size≤g1 by omega)
 clear hg1
 have HST:=Lib.hid (show ∀ wz,Below w1.heap.size w1 wz→Calls Tryz.prog 71 #[.slice m.oA m.ords.length m.oc,.agg #[.int .i64 v.1,.bool v.2]] wz (fun e w'=>e=.returned (.tuple #[stopA st,.int .i64 0])∧Below wz.heap.size wz w') from fun wz hb=>by
  have h:=ostop_any m v wz (HM.out.below hb).ords HM.out.ol hno hvf
  unfold StopE at h
  rw [hst] at h
  exact h)
 clear hst
 have HNG:=Lib.hid (show g≠w1.heap.size∧g1≠w1.heap.size from ⟨Nat.ne_of_lt (lt_heap HG1.out),Nat.ne_of_lt (lt_heap HP1.out)⟩)
 go_cut [5] (fun x wx=>∃ gb:Nat,x=.pointer (some ⟨gb,0,none⟩)∧wx.heap[gb]? = some (.cells (stopR st) 134)∧wx.heap[g1]? = some (.cells (stopR stop0) 134)∧Below w.heap.size w wx)
 case first =>
  have HKP:=Lib.hid (show ∀ w' w2,(w'.heap[g]? = some (.cells (wkR m r A c s t d e) 164)∧w'.heap[g1]? = some (.cells (stopR stop0) 134)∧Below w1.heap.size w1 w')→Below w'.heap.size w' w2→(w2.heap[g]? = some (.cells (wkR m r A c s t d e) 164)∧w2.heap[g1]? = some (.cells (stopR stop0) 134)∧Below w1.heap.size w1 w2) from fun w' w2 ⟨h0,h1,h2⟩ hb=>⟨row_keep h0 hb,row_keep h1 hb,below_lift h2 hb⟩)
  have hS0:(fun w'=>w'.heap[g]? = some (.cells (wkR m r A c s t d e) 164)∧w'.heap[g1]? = some (.cells (stopR stop0) 134)∧Below w1.heap.size w1 w') w1.drew:=⟨HG1.out,HP1.out,(Below.refl _ w1).drew⟩
  refine wp_region_held_drew (S:=fun w'=>w'.heap[g]? = some (.cells (wkR m r A c s t d e) 164)∧w'.heap[g1]? = some (.cells (stopR stop0) 134)∧Below w1.heap.size w1 w') (by kernel_rfl) hS0 (fun hHeld=>?_)
  refine wpAnyH_take (i:=0) (v:=?_) (by simp only [List.getElem?_toArray,List.getElem?_cons_zero];rfl) (by kernel_rfl) (by kernel_rfl) (by kernel_rfl) (by exact fun _ _ _ h=>h) (Or.inl ⟨by rfl,?_⟩) (by assumption) ?_
  rotate_left
  ·(intro w hSw;(try dsimp only at hSw);go_simp;(try with_reducible rfl))
  (try simp only [Act.put,List.setIfInBounds_toArray,List.set_cons_zero,List.set_cons_succ])
  refine wpAnyH_take (i:=1) (v:=?_) (by simp only [List.getElem?_toArray,List.getElem?_cons_succ,List.getElem?_cons_zero];rfl) (by kernel_rfl) (by kernel_rfl) (by kernel_rfl) (by exact fun _ _ _ h=>h) (Or.inl ⟨by rfl,?_⟩) (by assumption) ?_
  rotate_left
  ·(intro w hSw;(try dsimp only at hSw);go_simp;(try with_reducible rfl))
  (try simp only [Act.put,List.setIfInBounds_toArray,List.set_cons_zero,List.set_cons_succ])
  refine wpAnyH_take (i:=2) (v:=?_) (by simp only [List.getElem?_toArray,List.getElem?_cons_succ,List.getElem?_cons_zero];rfl) (by kernel_rfl) (by kernel_rfl) (by kernel_rfl) (by exact fun _ _ _ h=>h) (Or.inl ⟨by rfl,?_⟩) (by assumption) ?_
  rotate_left
  ·(intro w hSw;(try dsimp only at hSw);go_simp;(try with_reducible rfl))
  (try simp only [Act.put,List.setIfInBounds_toArray,List.set_cons_zero,List.set_cons_succ])
  refine wpAnyH_take (i:=3) (v:=?_) (by simp only [List.getElem?_toArray,List.getElem?_cons_succ,List.getElem?_cons_zero];rfl) (by kernel_rfl) (by kernel_rfl) (by kernel_rfl) (by exact fun _ _ _ h=>h) (Or.inl ⟨by rfl,?_⟩) (by assumption) ?_
  rotate_left
  ·(intro w hSw;(try dsimp only at hSw);go_simp;(try with_reducible rfl))
  (try simp only [Act.put,List.setIfInBounds_toArray,List.set_cons_zero,List.set_cons_succ])
  refine wpAnyH_take (i:=4) (v:=?_) (by simp only [List.getElem?_toArray,List.getElem?_cons_succ,List.getElem?_cons_zero];rfl) (by kernel_rfl) (by kernel_rfl) (by kernel_rfl) (by exact fun _ _ _ h=>h) (Or.inl ⟨by rfl,?_⟩) (by assumption) ?_
  rotate_left
  ·(intro w hSw;have q0:=cellsX hSw.1 3 (.slice m.oA m.ords.length m.oc) rfl;go_simp;(try with_reducible rfl))
  (try simp only [Act.put,List.setIfInBounds_toArray,List.set_cons_zero,List.set_cons_succ])
  refine wpAnyH_take (i:=5) (v:=?_) (by simp only [List.getElem?_toArray,List.getElem?_cons_succ,List.getElem?_cons_zero];rfl) (by kernel_rfl) (by kernel_rfl) (by kernel_rfl) (by exact fun _ _ _ h=>h) (Or.inl ⟨by rfl,?_⟩) (by assumption) ?_
  rotate_left
  ·(intro w hSw;(try dsimp only at hSw);go_simp;(try with_reducible rfl))
  (try simp only [Act.put,List.setIfInBounds_toArray,List.set_cons_zero,List.set_cons_succ])
  refine wpAnyH_take (i:=6) (v:=?_) (by simp only [List.getElem?_toArray,List.getElem?_cons_succ,List.getElem?_cons_zero];rfl) (by kernel_rfl) (by kernel_rfl) (by kernel_rfl) (by exact fun _ _ _ h=>h) (Or.inl ⟨by rfl,?_⟩) (by assumption) ?_
  rotate_left
  ·(intro w hSw;(try dsimp only at hSw);go_simp;(try with_reducible rfl))
  (try simp only [Act.put,List.setIfInBounds_toArray,List.set_cons_zero,List.set_cons_succ])
  refine wpAnyH_take (i:=7) (v:=?_) (by simp only [List.getElem?_toArray,List.getElem?_cons_succ,List.getElem?_cons_zero];rfl) (by kernel_rfl) (by kernel_rfl) (by kernel_rfl) (by exact fun _ _ _ h=>h) (Or.inl ⟨by rfl,?_⟩) (by assumption) ?_
  rotate_left
  ·(intro w hSw;(try dsimp only at hSw);go_simp;(try with_reducible rfl))
  (try simp only [Act.put,List.setIfInBounds_toArray,List.set_cons_zero,List.set_cons_succ])
  refine wpAnyH_take (i:=8) (v:=?_) (by simp only [List.getElem?_toArray,List.getElem?_cons_succ,List.getElem?_cons_zero];rfl) (by kernel_rfl) (by kernel_rfl) (by kernel_rfl) (by exact fun _ _ _ h=>h) (Or.inl ⟨by rfl,?_⟩) (by assumption) ?_
  rotate_left
  ·(intro w hSw;(try dsimp only at hSw);go_simp;(try with_reducible rfl))
  (try simp only [Act.put,List.setIfInBounds_toArray,List.set_cons_zero,List.set_cons_succ])
  refine wpAnyH_take (i:=9) (v:=?_) (by simp only [List.getElem?_toArray,List.getElem?_cons_succ,List.getElem?_cons_zero];rfl) (by kernel_rfl) (by kernel_rfl) (by kernel_rfl) (by exact fun _ _ _ h=>h) (Or.inl ⟨by rfl,?_⟩) (by assumption) ?_
  rotate_left
  ·(intro w hSw;have q0:=cellsX hSw.1 9 (.slice r.C r.r.vis.length r.cc) rfl;rw [HA1.out] at q0;go_simp;(try with_reducible rfl))
  (try simp only [Act.put,List.setIfInBounds_toArray,List.set_cons_zero,List.set_cons_succ])
  refine wpAnyH_take (i:=10) (v:=?_) (by simp only [List.getElem?_toArray,List.getElem?_cons_succ,List.getElem?_cons_zero];rfl) (by kernel_rfl) (by kernel_rfl) (by kernel_rfl) (by exact fun _ _ _ h=>h) (Or.inl ⟨by rfl,?_⟩) (by assumption) ?_
  rotate_left
  ·(intro w hSw;(try dsimp only at hSw);go_simp;(try with_reducible rfl))
  (try simp only [Act.put,List.setIfInBounds_toArray,List.set_cons_zero,List.set_cons_succ])
  refine wpAnyH_take (i:=11) (v:=?_) (by simp only [List.getElem?_toArray,List.getElem?_cons_succ,List.getElem?_cons_zero];rfl) (by kernel_rfl) (by kernel_rfl) (by kernel_rfl) (by exact fun _ _ _ h=>h) (Or.inl ⟨by rfl,?_⟩) (by assumption) ?_
  rotate_left
  ·(intro w hSw;(try dsimp only at hSw);go_simp;(try with_reducible rfl))
  (try simp only [Act.put,List.setIfInBounds_toArray,List.set_cons_zero,List.set_cons_succ])
  refine wpAnyH_take (i:=12) (v:=.agg #[.int .i64 v.1,.bool v.2]) (by simp only [List.getElem?_toArray,List.getElem?_cons_succ,List.getElem?_cons_zero];rfl) (by kernel_rfl) (by kernel_rfl) (by kernel_rfl) (by exact fun _ _ _ h=>h) (Or.inl ⟨by rfl,?_⟩) (by assumption) ?_
  ·(intro w hSw;obtain ⟨q0,q1⟩:=HX.out w hSw.2.2;go_simp;(try with_reducible rfl))
  (try simp only [Act.put,List.setIfInBounds_toArray,List.set_cons_zero,List.set_cons_succ])
  refine wpAnyH_ready (rs:=[13,17]) (by kernel_rfl) (by simp) (AllReadyH.cons (by simp only [List.getElem?_toArray,List.getElem?_cons_succ,List.getElem?_cons_zero];rfl) (fun K hK=>?_) (AllReadyH.cons (by simp only [List.getElem?_toArray,List.getElem?_cons_succ,List.getElem?_cons_zero];rfl) (fun K hK=>?_) AllReadyH.nil))
  ·go_simp
   refine (HST.out _ (And.right (And.right (by assumption)))).mono ?_
   rintro e wy ⟨rfl,hby⟩
   have HSY:=Lib.hid (HKP.out _ _ (by assumption) hby)
   refine hK.out _ _ (HSY.out) (fun hHeld=>?_)
   clear hK K
   (try simp only [Act.put,List.setIfInBounds_toArray,List.set_cons_zero,List.set_cons_succ])
   refine wpAnyH_take (i:=14) (v:=?_) (by simp only [List.getElem?_toArray,List.getElem?_cons_succ,List.getElem?_cons_zero];rfl) (by kernel_rfl) (by kernel_rfl) (by kernel_rfl) (by exact fun _ _ _ h=>h) (Or.inl ⟨by rfl,?_⟩) (by assumption) ?_
   rotate_left
   ·(intro w hSw;(try dsimp only at hSw);go_simp;(try with_reducible rfl))
   (try simp only [Act.put,List.setIfInBounds_toArray,List.set_cons_zero,List.set_cons_succ])
   refine wpAnyH_take (i:=15) (v:=?_) (by simp only [List.getElem?_toArray,List.getElem?_cons_succ,List.getElem?_cons_zero];rfl) (by kernel_rfl) (by kernel_rfl) (by kernel_rfl) (by exact fun _ _ _ h=>h) (Or.inl ⟨by rfl,?_⟩) (by assumption) ?_
   rotate_left
   ·(intro w hSw;(try dsimp only at hSw);go_simp;(try with_reducible rfl))
   (try simp only [Act.put,List.setIfInBounds_toArray,List.set_cons_zero,List.set_cons_succ])
   refine wpAnyH_take (i:=16) (v:=?_) (by simp only [List.getElem?_toArray,List.getElem?_cons_succ,List.getElem?_cons_zero];rfl) (by kernel_rfl) (by kernel_rfl) (by kernel_rfl) (by exact fun _ _ _ h=>h) (Or.inl ⟨by rfl,?_⟩) (by assumption) ?_
   rotate_left
   ·(intro w hSw;(try dsimp only at hSw);go_simp;(try with_reducible rfl))
   (try simp only [Act.put,List.setIfInBounds_toArray,List.set_cons_zero,List.set_cons_succ])
   refine wpAnyH_ready (rs:=[17]) (by kernel_rfl) (by simp) (AllReadyH.cons (by simp only [List.getElem?_toArray,List.getElem?_cons_succ,List.getElem?_cons_zero];rfl) (fun K hK=>?_) AllReadyH.nil)
   refine wanted_go (by rfl) ?_
   refine wp_alloc_new 134 rfl (stopR stop0) (by kernel_rfl) ?_
   refine hK.out _ _ (HKP.out _ _ (by assumption) (new_at _ _).1) (fun hHeld=>?_)
   clear hK K
   (try simp only [Act.put,List.setIfInBounds_toArray,List.set_cons_zero,List.set_cons_succ])
   refine wpAnyH_ready (rs:=[18]) (by kernel_rfl) (by simp) (AllReadyH.cons (by simp only [List.getElem?_toArray,List.getElem?_cons_succ,List.getElem?_cons_zero];rfl) (fun K hK=>?_) AllReadyH.nil)
   refine wanted_go (by rfl) ?_
   refine wp_store_row 134 _ _ rfl wy.heap.size (stopR st) rfl rfl 134 _ (new_at wy _).2 (by kernel_rfl) rfl (by kernel_rfl) ?_
   refine hK.out _ _ (HKP.out _ _ HSY.out (new_set wy _ _ _).2) (fun hHeld=>?_)
   clear hK K
   (try simp only [Act.put])
   refine wpAnyH_take (i:=19) (v:=?_) (by simp only [List.getElem?_toArray,List.getElem?_cons_succ,List.getElem?_cons_zero];rfl) (by kernel_rfl) (by kernel_rfl) (by kernel_rfl) (by exact fun _ _ _ h=>h) (Or.inl ⟨by rfl,?_⟩) (by assumption) ?_
   rotate_left
   ·(intro w hSw;(try dsimp only at hSw);go_simp;(try with_reducible rfl))
   (try simp only [Act.put,List.setIfInBounds_toArray,List.set_cons_zero,List.set_cons_succ])
   refine wpAnyH_done (by kernel_rfl) ?_ _
   go_wp2_with fail
   go_meet
   exact ⟨wy.heap.size,rfl,(new_set wy _ _ _).1,row_keep HSY.out.2.1 (new_set wy _ _ _).2,below_lift HB1.out (below_lift HSY.out.2.2 (new_set wy _ _ _).2)⟩
  ·refine wanted_go (by rfl) ?_
   refine wp_alloc_new 134 rfl (stopR stop0) (by kernel_rfl) ?_
   refine hK.out _ _ (HKP.out _ _ (by assumption) (new_at _ _).1) (fun hHeld=>?_)
   clear hK K
   (try simp only [Act.put,List.setIfInBounds_toArray,List.set_cons_zero,List.set_cons_succ])
   refine wpAnyH_ready (rs:=[13]) (by kernel_rfl) (by simp) (AllReadyH.cons (by simp only [List.getElem?_toArray,List.getElem?_cons_succ,List.getElem?_cons_zero];rfl) (fun K hK=>?_) AllReadyH.nil)
   go_simp
   refine (HST.out _ (And.right (And.right (by assumption)))).mono ?_
   rintro e wy ⟨rfl,hby⟩
   have HRY:=Lib.hid (row_keep (new_at w1.drew (.cells (stopR stop0) 134)).2 hby)
   have HSY:=Lib.hid (HKP.out _ _ (by assumption) hby)
   have HLE:=Lib.hid (show w1.heap.size≤wy.heap.size from Nat.le_trans (new_at w1.drew (.cells (stopR stop0) 134)).1.size hby.size)
   refine hK.out _ _ (HSY.out) (fun hHeld=>?_)
   clear hK K
   (try simp only [Act.put,List.setIfInBounds_toArray,List.set_cons_zero,List.set_cons_succ])
   refine wpAnyH_take (i:=14) (v:=?_) (by simp only [List.getElem?_toArray,List.getElem?_cons_succ,List.getElem?_cons_zero];rfl) (by kernel_rfl) (by kernel_rfl) (by kernel_rfl) (by exact fun _ _ _ h=>h) (Or.inl ⟨by rfl,?_⟩) (by assumption) ?_
   rotate_left
   ·(intro w hSw;(try dsimp only at hSw);go_simp;(try with_reducible rfl))
   (try simp only [Act.put,List.setIfInBounds_toArray,List.set_cons_zero,List.set_cons_succ])
   refine wpAnyH_take (i:=15) (v:=?_) (by simp only [List.getElem?_toArray,List.getElem?_cons_succ,List.getElem?_cons_zero];rfl) (by kernel_rfl) (by kernel_rfl) (by kernel_rfl) (by exact fun _ _ _ h=>h) (Or.inl ⟨by rfl,?_⟩) (by assumption) ?_
   rotate_left
   ·(intro w hSw;(try dsimp only at hSw);go_simp;(try with_reducible rfl))
   (try simp only [Act.put,List.setIfInBounds_toArray,List.set_cons_zero,List.set_cons_succ])
   refine wpAnyH_take (i:=16) (v:=?_) (by simp only [List.getElem?_toArray,List.getElem?_cons_succ,List.getElem?_cons_zero];rfl) (by kernel_rfl) (by kernel_rfl) (by kernel_rfl) (by exact fun _ _ _ h=>h) (Or.inl ⟨by rfl,?_⟩) (by assumption) ?_
   rotate_left
   ·(intro w hSw;(try dsimp only at hSw);go_simp;(try with_reducible rfl))
   (try simp only [Act.put,List.setIfInBounds_toArray,List.set_cons_zero,List.set_cons_succ])
   refine wpAnyH_ready (rs:=[18]) (by kernel_rfl) (by simp) (AllReadyH.cons (by simp only [List.getElem?_toArray,List.getElem?_cons_succ,List.getElem?_cons_zero];rfl) (fun K hK=>?_) AllReadyH.nil)
   refine wanted_go (by rfl) ?_
   refine wp_store_row 134 _ _ rfl w1.heap.size (stopR st) rfl rfl 134 _ HRY.out (by kernel_rfl) rfl (by kernel_rfl) ?_
   refine hK.out _ _ (⟨(setRow_other _ _ _ _ HNG.out.1).trans HSY.out.1,(setRow_other _ _ _ _ HNG.out.2).trans HSY.out.2.1,below_setRow HSY.out.2.2 (Nat.le_refl _) _⟩) (fun hHeld=>?_)
   clear hK K
   (try simp only [Act.put])
   refine wpAnyH_take (i:=19) (v:=?_) (by simp only [List.getElem?_toArray,List.getElem?_cons_succ,List.getElem?_cons_zero];rfl) (by kernel_rfl) (by kernel_rfl) (by kernel_rfl) (by exact fun _ _ _ h=>h) (Or.inl ⟨by rfl,?_⟩) (by assumption) ?_
   rotate_left
   ·(intro w hSw;(try dsimp only at hSw);go_simp;(try with_reducible rfl))
   (try simp only [Act.put,List.setIfInBounds_toArray,List.set_cons_zero,List.set_cons_succ])
   refine wpAnyH_done (by kernel_rfl) ?_ _
   go_wp2_with fail
   go_meet
   exact ⟨w1.heap.size,rfl,setRow_heap _ _ _ _ _ _ HRY.out,(setRow_other _ _ _ _ HNG.out.2).trans HSY.out.2.1,below_setRow (below_lift HB1.out HSY.out.2.2) HB1.out.size _⟩
 case rest =>
  obtain ⟨gb,rfl,hb1,hb2,hb3⟩:=hcut
  have H1:=Lib.hid hb1
  have H2:=Lib.hid hb2
  have HS:=Lib.hid (row_set (stopR st) hb2 hb3 HGG.out)
  clear hb1 hb2 hb3
  go_wp2_with (first | (refine wpList_load_row rfl 134 _ rfl gb rfl 134 _ _ _ H1.out Tryz.underlying134 rfl (by kernel_rfl) ?_) | (refine wpList_store_row rfl 134 _ _ rfl g1 (stopR st) rfl rfl 134 _ H2.out (by kernel_rfl) rfl (by kernel_rfl) ?_))
  refine bodyPost_ret (res_row1 rfl (ld_stp HS.out.1) rfl) rfl ?_
  exact ⟨rfl,HS.out.2⟩
set_option maxHeartbeats 8000000 in
set_option maxRecDepth 100000 in
theorem wplace_any (g i:Nat) (p:TripV) (w:World) (hg:w.heap[g]? = some (.cells (wkR m r A c s t d e) 164)) (hm:InsAt w m) (hok:InsOK m.v) (hr:RouAt w r) (hp:PlanIs m.v r.r p) (htt:t.t=p.t) (hi:i≤r.r.vis.length) (h8:r.r.vis.length≤8) :
  Calls Tryz.prog 76 #[.pointer (some ⟨g,0,none⟩),.int .i64 i] w fun x w'=>x=.returned (.int .i64 (endP p i))∧Below w.heap.size w w':=by
 have y9:=cellsX hg 9 (.slice r.C r.r.vis.length r.cc) rfl
 have y18:=cellsX hg 18 (.int .i64 t.t.tgt) rfl
 have hpl:=hp.len
 by_cases h:i=r.r.vis.length
 ·have hb:=int_bt (show (i:Int)=(r.r.vis.length:Int) by omega)
  have HE:=Lib.hid (show endP p i=t.t.tgt by unfold endP;rw [List.getElem?_eq_none (by omega),htt])
  clear hg hm hr hp htt h hpl
  go_enter Tryz.func76,Tryz.ntmps76
  go_wp2_with fail
  go_ret
  exact ⟨ret_int HE.out.symm,Below.refl _ _⟩
 ·have hb:=int_bf (show ¬ (i:Int)=(r.r.vis.length:Int) by omega)
  have hlt:i<r.r.vis.length:=by omega
  have HE:=Lib.hid (show endP p i=(p.stops[i]'(by omega)).place by unfold endP;rw [List.getElem?_eq_getElem])
  have HST:=Lib.hid (wstop_any (t:=t) (d:=d) (e:=e) (s:=s) (A:=A) (c:=c) g i _ w hg hm hok hr hlt (stopsOf_get m.v _ _ i hlt (by omega) hp.stops) h8)
  generalize (p.stops[i]'(by omega))=st at *
  have hfd:=fld_place st
  clear hg hm hr hp htt h hpl
  go_enter Tryz.func76,Tryz.ntmps76
  go_wp2_with fail
  refine HST.out.mono ?_
  rintro x w1 ⟨rfl,hb1⟩
  have HB:=Lib.hid hb1
  clear hb1
  go_wp2_with fail
  go_ret
  exact ⟨ret_int HE.out.symm,HB.out⟩
end
theorem since_lo {p:TripV} {s:SheetV} (h:SmallS p s):∀ i,i≤p.stops.length → -20000*((i:Int)+1)≤sinceAt s i
 |0,hi=>by
  have ha:0≤arrAt s 0:=by
   unfold arrAt
   cases hs:s.times[0]? with
   |none=>exact h.fin.1
   |some t=>exact (h.each t (List.mem_of_getElem? hs)).1.1
  have hd:depAt s 0≤20000:=by unfold depAt;rw [if_pos rfl];exact h.dep0.2
  rw [sinceAt];omega
 |i+1,hi=>by
  have ih:=since_lo h i (by omega)
  have ha:0≤arrAt s (i+1):=by
   unfold arrAt
   cases hs:s.times[i+1]? with
   |none=>exact h.fin.1
   |some t=>exact (h.each t (List.mem_of_getElem? hs)).1.1
  have hd:depAt s (i+1)≤20000:=by
   unfold depAt
   rw [if_neg (by omega),Nat.add_sub_cancel]
   cases hs:s.times[i]? with
   |none=>decide
   |some t=>exact (h.each t (List.mem_of_getElem? hs)).2.2.2
  rw [sinceAt]
  split <;> omega
theorem driven_b {p:TripV} {s:SheetV} (h:SmallS p s) (hl:LegsOK p (p.stops.length+1) s) (hd:0≤p.t.drive∧p.t.drive≤4096) (h8:p.stops.length≤8) (i:Nat) (hi:i≤p.stops.length):-200000≤drivenAt s i∧drivenAt s i≤4096:=by
 unfold drivenAt
 by_cases h0:i=0
 ·rw [if_pos h0];omega
 ·rw [if_neg h0]
  split
  ·omega
  ·have h1:=since_lo h (i - 1) (by omega)
   have h2:=hl.drive (i - 1) (by omega)
   omega
theorem dep_b {p:TripV} {s:SheetV} (h:SmallS p s) (i:Nat):0≤depAt s i∧depAt s i≤20000:=by
 unfold depAt
 split
 ·exact h.dep0
 ·cases hs:s.times[i - 1]? with
  |none=>decide
  |some t=>exact (h.each t (List.mem_of_getElem? hs)).2.2
theorem driven_step (s:SheetV) {k:Nat} (hk:k<s.times.length):drivenAt s (k+1)=(if s.times[k].rest then 0 else drivenAt s k+(s.times[k].arr - depAt s k))∧depAt s (k+1)=s.times[k].dep:=by
 have h1:restAt s (k+1)=s.times[k].rest:=by unfold restAt;rw [if_neg (by omega),Nat.add_sub_cancel,List.getElem?_eq_getElem hk]
 have h2:depAt s (k+1)=s.times[k].dep:=by unfold depAt;rw [if_neg (by omega),Nat.add_sub_cancel,List.getElem?_eq_getElem hk]
 have h3:arrAt s k=s.times[k].arr:=by unfold arrAt;rw [List.getElem?_eq_getElem hk]
 refine ⟨?_,h2⟩
 unfold drivenAt
 rw [if_neg (by omega),h1,Nat.add_sub_cancel,sinceAt_eq,h3]
 unfold drivenAt
 split <;> omega
section
variable {m:InsM} {r:RouM} {A:Option Addr} {c:Nat} {s:SheetV} {t:TypeM}
set_option maxHeartbeats 16000000 in
set_option maxRecDepth 100000 in
theorem wahead_any (g n:Nat) (p:TripV) (w:World) (hg:w.heap[g]? = some (.cells (wkR m r A c s t 0 0) 164)) (ht:TmAt w A c s.times) (hsm:SmallS p s) (hlg:LegsOK p (p.stops.length+1) s) (hdr:0≤p.t.drive∧p.t.drive≤4096) (hn:n≤s.times.length) (h8:s.times.length≤8) :
  Calls Tryz.prog 74 #[.pointer (some ⟨g,0,none⟩),.int .i64 n] w fun x w'=>x=.returned (.tuple #[])∧KpB g w w'∧w'.heap[g]? = some (.cells (wkR m r A c s t (drivenAt s n) (depAt s n)) 164):=by
 have hsl:=hsm.len
 have HG:=Lib.hid hg
 have HTM:=Lib.hid ht
 have HSM:=Lib.hid hsm
 have HDB:=Lib.hid (fun i (hi:i≤s.times.length)=>driven_b hsm hlg hdr (by omega) i (by omega))
 have HDP:=Lib.hid (fun i=>dep_b hsm i)
 have hnc:=ht.2.1
 unfold maxLen at hnc
 have y11:=cellsX hg 11 (.int .i64 s.dep) rfl
 have y30:=cellsX hg 30 (.int .i64 0) rfl
 have z30:=frz hg 30
 have HK1:=Lib.hid ((KpB.refl g w).store 30 (.int .i64 s.dep))
 have HR1:=Lib.hid (show (w.setCell ⟨g,30,none⟩ (.int .i64 s.dep)).heap[g]? = some (.cells (wkR m r A c s t 0 s.dep) 164) from heap_put hg)
 clear hg ht hsm hlg hsl
 go_enter Tryz.func74,Tryz.ntmps74
 go_upto_region 2 with fail
 clear y11 y30 z30
 generalize w.setCell ⟨g,30,none⟩ (.int .i64 s.dep)=w1 at *
 go_loopw [14] (fun j wr=>∃ k:Nat,k≤n∧j=.int .i64 k∧KpB g w wr∧wr.heap[g]? = some (.cells (wkR m r A c s t (drivenAt s k) (depAt s k)) 164)) (fun j _=>n - (intOf j).toNat)
 case atStart=>exact ⟨0,Nat.zero_le _,rfl,HK1.out,HR1.out⟩
 case round =>
  clear HK1 HR1
  obtain ⟨k,hk,rfl,hkp,hrg⟩:=hrel
  have HKP:=Lib.hid hkp
  have HRG:=Lib.hid hrg
  clear hkp hrg
  by_cases hlt:k<n
  ·have hlt1:(k:Int)<(n:Int):=by omega
   have hkl:k<s.times.length:=by omega
   have hkl1:(k:Int)<(s.times.length:Int):=by omega
   obtain ⟨hs1,hs2⟩:=driven_step s hkl
   have HS1:=Lib.hid hs1
   have HS2:=Lib.hid hs2
   obtain ⟨b1,b2⟩:=HDB.out k (by omega)
   obtain ⟨b3,b4⟩:=HDP.out k
   have htk:=HSM.out.each _ (List.getElem_mem hkl)
   have HTW:=Lib.hid (show TmAt wr A c s.times from HTM.out.keep HG.out (by decide) HKP.out.1 HKP.out.2)
   obtain ⟨g1,o1,hA1,hg1,hx1⟩:=elemsP timeC_len (by decide) HTW.out.1 (by omega)
   have x0:=hx1 k hkl 0 _ rfl
   have x2:=hx1 k hkl 2 _ rfl
   rw [Nat.add_zero] at x0
   have y12:=cellsX HRG.out 12 (.slice A s.times.length c) rfl
   have y29:=cellsX HRG.out 29 (.int .i64 (drivenAt s k)) rfl
   have y30:=cellsX HRG.out 30 (.int .i64 (depAt s k)) rfl
   have z29:=frz HRG.out 29
   rw [hA1] at y12
   obtain ⟨⟨t1,t2⟩,_,t3,t4⟩:=htk
   have hgg1:g1<wr.heap.size:=hg1
   have HRS:=Lib.hid (fun wz (h:wz.heap[g]? = some (.cells (wkR m r A c s t (drivenAt s k+(s.times[k].arr - depAt s k)) (s.times[k].dep)) 164)) (ht:TmAt wz A c s.times)=>wrests_any (m:=m) (r:=r) (t:=t) g k wz h ht hkl (by omega))
   obtain ⟨tv,htv⟩:∃ tv,s.times[k]=tv:=⟨_,rfl⟩
   have HTVE:=Lib.hid htv
   rw [htv] at HS1 HS2 x0 x2 t1 t2 t3 t4 HRS
   clear htv
   generalize drivenAt s k=dk at *
   generalize depAt s k=ek at *
   clear hx1 hA1 hs1 hs2
   go_upto_region 4 with fail
   go_region
   have HR2:=Lib.hid (show (wr.setCell ⟨g,29,none⟩ (.int .i64 (dk+(tv.arr - ek)))).drew.heap[g]? = some (.cells (wkR m r A c s t (dk+(tv.arr - ek)) ek) 164) from heap_put HRG.out)
   have hk2:KpB g wr (wr.setCell ⟨g,29,none⟩ (.int .i64 (dk+(tv.arr - ek)))).drew:=(((KpB.refl g wr).store 29 (.int .i64 (dk+(tv.arr - ek)))).below (Below.refl _ _).drew)
   have HK2:=Lib.hid (HKP.out.trans hk2)
   have HT2:=Lib.hid (HTW.out.keep HRG.out (by decide) hk2.1 hk2.2)
   clear x0 x2 y12 y29 y30 z29 HRG HTW hk2 hgg1 hg1
   generalize (wr.setCell ⟨g,29,none⟩ (.int .i64 (dk+(tv.arr - ek)))).drew=w2 at *
   obtain ⟨g1,o1,hA1,hg1,hx1⟩:=elemsP timeC_len (by decide) HT2.out.1 (by omega)
   have HTV:=Lib.hid (show s.times[k]=tv from HTVE.out)
   have x2:=hx1 k hkl 2 _ rfl
   rw [HTV.out] at x2
   have y12:=cellsX HR2.out 12 (.slice A s.times.length c) rfl
   rw [hA1] at y12
   have y30:=cellsX HR2.out 30 (.int .i64 ek) rfl
   have z30:=frz HR2.out 30
   have HR3:=Lib.hid (show (w2.setCell ⟨g,30,none⟩ (.int .i64 tv.dep)).heap[g]? = some (.cells (wkR m r A c s t (dk+(tv.arr - ek)) tv.dep) 164) from heap_put HR2.out)
   have hk3:=(KpB.refl g w2).store 30 (.int .i64 tv.dep)
   have HK3:=Lib.hid (HK2.out.trans hk3)
   have HT3:=Lib.hid (HT2.out.keep HR2.out (by decide) hk3.1 hk3.2)
   clear hx1 hA1 hk3 hg1
   go_upto_region 6 with fail
   clear x2 y12 y30 z30 HR2 HK2 HT2
   generalize w2.setCell ⟨g,30,none⟩ (.int .i64 tv.dep)=w3 at *
   have HW:=Lib.hid (HRS.out w3 HR3.out HT3.out)
   clear HRS
   go_wp2_with fail
   refine HW.out.mono ?_
   rintro e w4 ⟨rfl,hw4⟩
   obtain rfl:=hw4.symm
   cases hb:tv.rest with
   |false =>
    have HD:=Lib.hid (show drivenAt s (k+1)=dk+(tv.arr - ek) by rw [HS1.out,hb];rfl)
    go_wp2_with fail
    go_roundw
    case rel=>exact ⟨k+1,by omega,by go_num,HK3.out,by rw [HD.out,HS2.out];exact HR3.out⟩
    case measure=>simp [intOf];omega
   |true =>
    have HD:=Lib.hid (show drivenAt s (k+1)=0 by rw [HS1.out,hb];rfl)
    have y29:=cellsX HR3.out 29 (.int .i64 (dk+(tv.arr - ek))) rfl
    have z29:=frz HR3.out 29
    have HR4:=Lib.hid (show (w3.setCell ⟨g,29,none⟩ (.int .i64 0)).heap[g]? = some (.cells (wkR m r A c s t 0 tv.dep) 164) from heap_put HR3.out)
    have HK4:=Lib.hid (HK3.out.trans ((KpB.refl g w3).store 29 (.int .i64 0)))
    go_wp2_with fail
    go_roundw
    case rel=>exact ⟨k+1,by omega,by go_num,HK4.out,by rw [HD.out,HS2.out];exact HR4.out⟩
    case measure=>simp [intOf];omega
  ·have hlt1:¬ (k:Int)<(n:Int):=by omega
   have hkn:k=n:=by omega
   subst hkn
   go_wp2_with fail
   go_end0
   exact ⟨rfl,HKP.out,HRG.out⟩
end
section
variable {P:Program} {ops:Array Oper} {rest:List Oper} {o:Oper} {a:Act} {Q:Exit→Act→World→Prop}
theorem step_appk {K:Act→World→Prop} {E:Prop} {t e:TypeId} {z:Value} {sz bytes:Nat} (he:ElemR P t e z sz bytes) (hgd:o.guard=none) (s x:Operand) (ho:o.op=.call { callee:=.builtin .append,args:=#[s,x],argTypes:=#[t,t] })
  (Bs:Nat) (A:Option Addr) (n c:Nat) (xs:List Value) (w:World) (g1:Nat) (us:List Value) (hs:a.eval s=.slice A n c) (hown:OwnR w Bs e sz A n c xs)
  (hx:a.eval x=.slice (some ⟨g1,0,none⟩) 1 1) (hus:us.length=sz) (hcell:∀ j u,us[j]? = some u→w.cell? ⟨g1,j,none⟩=some u) (h1:∀ u ∈ us,u.oneCell'=true) (h63:n+1≤maxLen) (hby:(n+1)*bytes≤140737488355328) (hbase:Bs≤w.heap.size)
  (hK:∀ A' c' w',OwnR w' Bs e sz A' (n+1) c' (xs ++ us)→Below Bs w w'→KpA A w w'→K (a.put o.dst (.slice A' (n+1) c')) w') :
  if Region.wanted o (yielded ops a.tmps)=true then Oper.wp P o a w K Q else E:=by
 obtain ⟨ht,⟨i,hi,hz,hsz,hb⟩,hzs,hpos⟩:=he
 have hw:Region.wanted o (yielded ops a.tmps)=true:=by simp [Region.wanted,hgd]
 rw [if_pos hw]
 have hb0:∀ k,(Value.slice A n c).ownBlock=some k→Bs≤k:=by
  intro k hk
  rcases hown.2 with ⟨hv,_⟩ | ⟨g',cap',cur',hv,hg',_⟩
  ·rw [hv] at hk;simp [Value.ownBlock] at hk
  ·rw [hv] at hk;simp [Value.ownBlock] at hk;omega
 have hc:∀ j u,us[j]? = some u→w.cell? ((⟨g1,0,none⟩:Addr).add j)=some u:=by
  intro j u hj
  have h0:=hcell j u hj
  unfold Addr.add
  split
  ·rename_i h1;subst h1;exact h0
  ·show w.cell? ⟨g1,0+j,none⟩=_
   rw [Nat.zero_add];exact h0
 obtain ⟨v',w',hrun,r1,r2,r3⟩:=run_append_own (P:=P) w Bs t o.type e i z sz bytes ht hi hz hsz hb hzs hpos (.slice A n c) n xs hown ⟨g1,0,none⟩ 1 1 us (by omega) hc h1 h63 hby hbase
 have hne:v'≠.slice none 0 0:=by intro e;have:=(r3.1 e).2;omega
 obtain ⟨A',c',hv⟩:∃ A' c',v'=.slice A' (n+1) c':=by
  rcases r1.2 with ⟨hv,_⟩ | ⟨g,cap,cur,hv,_⟩
  ·exact absurd hv hne
  ·exact ⟨_,_,hv⟩
 subst hv
 unfold Oper.wp
 simp [execOp,ho,resolve,invoke,builtin,hs,hx,hrun,Result.andThen]
 have hbw:=(Below.refl Bs w).grown r2 hbase hb0
 refine hK A' c' w' r1 hbw ⟨hbw.size,fun k hk hA=>?_⟩
 have hne2:some k≠(Value.slice A n c).ownBlock:=by
  rcases hown.2 with ⟨hv,_⟩ | ⟨g',cap',cur',hv,hg',_⟩
  ·rw [hv];simp [Value.ownBlock]
  ·injection hv with hv1 _ _
   rw [hv1]
   intro e
   have:k=g':=by simpa [Value.ownBlock] using e
   exact hA 0 none (by rw [hv1,this])
 exact r2.block k hk hne2
end
theorem cells_newP {w:World} {e:TypeId} {us:List Value}:∀ j u,us[j]? = some u→(w.alloc (.cells us.toArray e)).cell? ⟨w.heap.size,j,none⟩=some u:=by
 intro j u hj
 rw [World.cell?_alloc_new]
 simpa using hj
def RKp (g gs:Nat) (w w':World):Prop:=∀ k cs ty,w.heap[k]? = some (.cells cs ty)→ty≠158→k≠g→k≠gs→w'.heap[k]? = some (.cells cs ty)
theorem RKp.refl (g gs:Nat) (w:World):RKp g gs w w:=fun _ _ _ h _ _ _=>h
theorem RKp.trans {g gs:Nat} {w w1 w2:World} (h:RKp g gs w w1) (h2:RKp g gs w1 w2):RKp g gs w w2:=fun k cs ty h0 ht h3 h4=>h2 k cs ty (h k cs ty h0 ht h3 h4) ht h3 h4
theorem RKp.below {g gs:Nat} {w w1 w2:World} (h:RKp g gs w w1) (hb:Below w1.heap.size w1 w2):RKp g gs w w2:=fun k cs ty h0 ht h3 h4=>row_keep (h k cs ty h0 ht h3 h4) hb
theorem RKp.put {g gs:Nat} {w w1:World} (h:RKp g gs w w1) {b:Nat} (hb:b=g∨b=gs) (i:Nat) (v:Value):RKp g gs w (w1.setCell ⟨b,i,none⟩ v):=fun k cs ty h0 ht h3 h4=>((KpB.refl b w1).store i v).row (h k cs ty h0 ht h3 h4) (by rcases hb with rfl | rfl;exact h3;exact h4)
theorem RKp.app {g gs:Nat} {w w1 w2:World} (h:RKp g gs w w1) {A:Option Addr} {Bs n c:Nat} {xs:List Value} (hk:KpA A w1 w2) (hA:OwnR w1 Bs 158 4 A n c xs):RKp g gs w w2:=fun k cs ty h0 ht h3 h4=>hk.row (h k cs ty h0 ht h3 h4) (hA.far (h k cs ty h0 ht h3 h4) (fun e=>ht e.symm))
theorem tm_wk:158≠164:=by decide
theorem tm_sh:158≠39:=by decide
section
variable {m:InsM} {r:RouM} {A:Option Addr} {c:Nat} {s:SheetV} {t:TypeM}
structure LtS (m:InsM) (r:RouM) (A:Option Addr) (c:Nat) (s:SheetV) (t:TypeM) (w0:World) (g gs:Nat) (w:World) (d e:Int) (A2:Option Addr) (c2:Nat) (sh:SheetV):Prop where
 rg:w.heap[g]? = some (.cells (wkR m r A c s t d e) 164)
 rs:w.heap[gs]? = some (.cells (sheetQ A2 c2 sh) 39)
 own:TmO w w0.heap.size A2 c2 sh.times
 bel:Below w0.heap.size w0 w
 n:g≠gs∧w0.heap.size≤g∧w0.heap.size≤gs
variable {w0 w w':World} {g gs:Nat} {d e:Int} {A2:Option Addr} {c2:Nat} {sh:SheetV}
theorem LtS.below (h:LtS m r A c s t w0 g gs w d e A2 c2 sh) (hb:Below w.heap.size w w'):LtS m r A c s t w0 g gs w' d e A2 c2 sh:=⟨row_keep h.rg hb,row_keep h.rs hb,OwnR.below h.own hb,below_lift h.bel hb,h.n⟩
theorem LtS.putd (h:LtS m r A c s t w0 g gs w d e A2 c2 sh) (d':Int):LtS m r A c s t w0 g gs (w.setCell ⟨g,29,none⟩ (.int .i64 d')) d' e A2 c2 sh :=
 have hk:=(KpB.refl g w).store 29 (.int .i64 d')
 ⟨heap_put h.rg,hk.row h.rs (fun e=>h.n.1 e.symm),OwnR.keptB h.own hk h.rg tm_wk,h.bel.setCell h.n.2.1 _,h.n⟩
theorem LtS.pute (h:LtS m r A c s t w0 g gs w d e A2 c2 sh) (e':Int):LtS m r A c s t w0 g gs (w.setCell ⟨g,30,none⟩ (.int .i64 e')) d e' A2 c2 sh :=
 have hk:=(KpB.refl g w).store 30 (.int .i64 e')
 ⟨heap_put h.rg,hk.row h.rs (fun e=>h.n.1 e.symm),OwnR.keptB h.own hk h.rg tm_wk,h.bel.setCell h.n.2.1 _,h.n⟩
theorem LtS.putf (h:LtS m r A c s t w0 g gs w d e A2 c2 sh) (f:Int):LtS m r A c s t w0 g gs (w.setCell ⟨gs,3,none⟩ (.int .i64 f)) d e A2 c2 { sh with fin:=f } :=
 have hk:=(KpB.refl gs w).store 3 (.int .i64 f)
 ⟨hk.row h.rg h.n.1,heap_put h.rs,OwnR.keptB h.own hk h.rs tm_sh,h.bel.setCell h.n.2.2 _,h.n⟩
theorem LtS.other (h:LtS m r A c s t w0 g gs w d e A2 c2 sh) {b:Nat} {cs:Array Value} (hb:w.heap[b]? = some (.cells cs 158)) (hA:∀ off sp,A2≠some ⟨b,off,sp⟩) (h1:b≠g) (h2:b≠gs) (h3:w0.heap.size≤b) (i:Nat) (v:Value):LtS m r A c s t w0 g gs (w.setCell ⟨b,i,none⟩ v) d e A2 c2 sh :=
 have hk:=(KpB.refl b w).store i v
 ⟨hk.row h.rg (fun e=>h1 e.symm),hk.row h.rs (fun e=>h2 e.symm),OwnR.keep h.own (fun b' hb'=>hk.2 b' (by have h5:OwnR w w0.heap.size 158 4 A2 sh.times.length c2 (sh.times.flatMap timeC):=h.own;rw [hb'] at h5;exact h5.typ.2.1) (fun e=>by subst e;exact hA 0 none hb')),h.bel.setCell h3 _,h.n⟩
theorem LtS.app (h:LtS m r A c s t w0 g gs w d e A2 c2 sh) {A3:Option Addr} {c3:Nat} {ts:List TimeV} (hb:Below w0.heap.size w w') (hk:KpA A2 w w') (ho:TmO w' w0.heap.size A3 c3 ts) :
  LtS m r A c s t w0 g gs (w'.setCell ⟨gs,2,none⟩ (.slice A3 ts.length c3)) d e A3 c3 { sh with times:=ts }:=by
 have rs:=hk.row h.rs (OwnR.far h.own h.rs tm_sh)
 have rg:=hk.row h.rg (OwnR.far h.own h.rg tm_wk)
 have hk2:=(KpB.refl gs w').store 2 (.slice A3 ts.length c3)
 exact ⟨hk2.row rg h.n.1,heap_put rs,OwnR.keptB ho hk2 rs tm_sh,(h.bel.trans hb).setCell h.n.2.2 _,h.n⟩
end
def okA (p:TripV) (i:Nat) (arr dr:Int):Bool:=match p.stops[i]? with
 |none=>decide (arr≤p.t.cls) && decide (dr≤p.t.drive)
 |some st=>decide (max arr st.opn≤st.cls) && decide (dr≤p.t.drive)
def afD (p:TripV) (s:SheetV) (i:Nat) (dr:Int):Int:=match p.stops[i]? with
 |none=>dr
 |some _=>if restAt s (i+1) then 0 else dr
def afE (p:TripV) (s:SheetV) (i:Nat) (arr dep:Int):Int:=match p.stops[i]? with
 |none=>dep
 |some st=>max arr st.opn+st.serv+if restAt s (i+1) then p.t.rest else 0
def ArrE (m:InsM) (r:RouM) (A:Option Addr) (c:Nat) (s:SheetV) (t:TypeM) (p:TripV) (w0:World) (g gs i:Nat) (arr d e:Int) (sh:SheetV) (w:World) (x:Ending) (w':World):Prop:=∃ k:Int,x=.returned (.int .i64 k)∧RKp g gs w w'∧Below w0.heap.size w0 w'∧(k=0↔okA p i arr (d+(arr - e))=true) ∧
 (k=0→∃ A3 c3 sh3,LtS m r A c s t w0 g gs w' (afD p s i (d+(arr - e))) (afE p s i arr e) A3 c3 sh3∧sh3.times.length≤sh.times.length+1)
theorem ArrE.no {m:InsM} {r:RouM} {A:Option Addr} {c:Nat} {s:SheetV} {t:TypeM} {p:TripV} {w0:World} {g gs i:Nat} {arr d e:Int} {sh:SheetV} {w w':World} {k:Int} (hk:k≠0) (h1:RKp g gs w w') (h2:Below w0.heap.size w0 w') (h3:okA p i arr (d+(arr - e))=false):ArrE m r A c s t p w0 g gs i arr d e sh w (.returned (.int .i64 k)) w':=⟨k,rfl,h1,h2,⟨fun h=>absurd h hk,fun h=>by rw [h3] at h;cases h⟩,fun h=>absurd h hk⟩
theorem ArrE.yes {m:InsM} {r:RouM} {A:Option Addr} {c:Nat} {s:SheetV} {t:TypeM} {p:TripV} {w0:World} {g gs i:Nat} {arr d e d' e':Int} {sh sh3:SheetV} {w w':World} {A3:Option Addr} {c3:Nat} (h1:RKp g gs w w') (h3:okA p i arr (d+(arr - e))=true) (hL:LtS m r A c s t w0 g gs w' d' e' A3 c3 sh3) (hd:d'=afD p s i (d+(arr - e))) (he:e'=afE p s i arr e) (hn:sh3.times.length≤sh.times.length+1):ArrE m r A c s t p w0 g gs i arr d e sh w (.returned (.int .i64 0)) w':=by
 subst hd he
 exact ⟨0,rfl,h1,hL.bel,⟨fun _=>h3,fun _=>rfl⟩,fun _=>⟨A3,c3,sh3,hL,hn⟩⟩
section
variable {m:InsM} {r:RouM} {A:Option Addr} {c:Nat} {s:SheetV} {t:TypeM}
set_option maxHeartbeats 32000000 in
set_option maxRecDepth 100000 in
theorem warrive_any (w0:World) (g gs i:Nat) (arr d e:Int) (A2:Option Addr) (c2:Nat) (sh:SheetV) (p:TripV) (w:World) (hL:LtS m r A c s t w0 g gs w d e A2 c2 sh) (hm:InsAt w0 m) (hok:InsOK m.v) (hr:RouAt w0 r) (hp:PlanIs m.v r.r p) (htt:t.t=p.t) (ht:TmAt w0 A c s.times) (hsl:s.times.length=p.stops.length) (hi:i≤r.r.vis.length) (h8:r.r.vis.length≤8) (hsh:sh.times.length≤1000) (ha:0≤arr∧arr≤200000) (hd:-1000000≤d∧d≤1000000) (he:0≤e∧e≤1000000) :
  Calls Tryz.prog 75 #[.pointer (some ⟨g,0,none⟩),.pointer (some ⟨gs,0,none⟩),.int .i64 i,.int .i64 arr] w (ArrE m r A c s t p w0 g gs i arr d e sh w):=by
 have HL:=Lib.hid hL
 have HM:=Lib.hid hm
 have HO:=Lib.hid hok
 have HR:=Lib.hid hr
 have HP:=Lib.hid hp
 have HTT:=Lib.hid htt
 have HTM:=Lib.hid ht
 have HSL:=Lib.hid hsl
 have hpl:=hp.len
 have HPL:=Lib.hid hpl
 have hty:TypeOK t.t:=by rw [htt];exact (hp.ok hok).t
 have hcl:=hty.cls
 obtain ⟨hdr0,hdr1⟩:=hty.drive
 obtain ⟨hre0,hre1⟩:=hty.rest
 have y29:=cellsX hL.rg 29 (.int .i64 d) rfl
 have y30:=cellsX hL.rg 30 (.int .i64 e) rfl
 have z29:=frz hL.rg 29
 clear hL hm hok hr hp htt ht hsl hpl hty
 go_enter Tryz.func75,Tryz.ntmps75
 go_upto_region 1 with fail
 go_region
 obtain ⟨dr,hdr⟩:∃ dr,dr=d+(arr - e):=⟨_,rfl⟩
 have HDR:=Lib.hid hdr
 rw [← hdr]
 have HL1:=Lib.hid ((HL.out.putd dr).below (Below.refl _ _).drew)
 have HK1:=Lib.hid (((RKp.refl g gs w).put (.inl rfl) 29 (.int .i64 dr)).below (Below.refl _ _).drew)
 have hdb:-2300000≤dr∧dr≤2300000:=by omega
 clear y29 y30 z29 hdr
 generalize (w.setCell ⟨g,29,none⟩ (.int .i64 dr)).drew=w1 at *
 have y29:=cellsX HL1.out.rg 29 (.int .i64 dr) rfl
 have y24:=cellsX HL1.out.rg 24 (.int .i64 t.t.drive) rfl
 have y9:=cellsX HL1.out.rg 9 (.slice r.C r.r.vis.length r.cc) rfl
 go_upto_region 2 with fail
 go_quiet (fail)
 have HL2:=Lib.hid (HL1.out.below (below_drewN (Below.refl _ w1) nq))
 have HK2:=Lib.hid (HK1.out.below (below_drewN (Below.refl _ w1) nq))
 clear y29 y24 y9 HL1 HK1 HL
 generalize w1.drewN nq=w2 at *
 have y9:=cellsX HL2.out.rg 9 (.slice r.C r.r.vis.length r.cc) rfl
 by_cases hin:i=r.r.vis.length
 ·have hib:=int_bt (show (i:Int)=(r.r.vis.length:Int) by omega)
  have hst:p.stops[i]? = none:=List.getElem?_eq_none (by have:=HPL.out;omega)
  have HOK:=Lib.hid (show okA p i arr (d+(arr - e))=(decide (arr≤t.t.cls) && decide (dr≤t.t.drive)) by unfold okA;rw [hst,HTT.out,HDR.out])
  have HAD:=Lib.hid (show dr=afD p s i (d+(arr - e)) by unfold afD;rw [hst];exact HDR.out)
  have HAE:=Lib.hid (show e=afE p s i arr e by unfold afE;rw [hst])
  have y23:=cellsX HL2.out.rg 23 (.int .i64 t.t.cls) rfl
  clear hst hin
  by_cases h1:t.t.cls<arr
  ·have HN:=Lib.hid (show okA p i arr (d+(arr - e))=false by rw [HOK.out,decide_eq_false (by omega)];rfl)
   go_wp2_with fail
   go_ret
   exact ArrE.no (by decide) HK2.out HL2.out.bel HN.out
  ·by_cases h2:t.t.drive<dr
   ·have HN:=Lib.hid (show okA p i arr (d+(arr - e))=false by rw [HOK.out,decide_eq_false (show ¬ dr≤t.t.drive by omega)];simp)
    go_wp2_with fail
    go_ret
    exact ArrE.no (by decide) HK2.out HL2.out.bel HN.out
   ·have HN:=Lib.hid (show okA p i arr (d+(arr - e))=true by rw [HOK.out,decide_eq_true (by omega),decide_eq_true (by omega)];rfl)
    have s3:=cellsX HL2.out.rs 3 (.int .i64 sh.fin) rfl
    have z3:=frz HL2.out.rs 3
    have HL3:=Lib.hid (HL2.out.putf arr)
    have HK3:=Lib.hid (HK2.out.put (.inr rfl) 3 (.int .i64 arr))
    go_wp2_with fail
    go_ret
    exact ArrE.yes HK3.out HN.out HL3.out HAD.out HAE.out (Nat.le_succ _)
 ·have hib:=int_bf (show ¬ (i:Int)=(r.r.vis.length:Int) by omega)
  have hlt:i<r.r.vis.length:=by omega
  have hlp:i<p.stops.length:=by have:=HPL.out;omega
  have hls:i<s.times.length:=by have:=HSL.out;omega
  have hst:p.stops[i]? = some p.stops[i]:=List.getElem?_eq_getElem hlp
  have hso:=stopsOf_get m.v _ _ i hlt hlp HP.out.stops
  obtain ⟨hq0,hq1,hq2,hq3,hq4⟩:=stop_le (stopOf_ok HO.out hso).1
  have hra:restAt s (i+1)=s.times[i].rest:=by unfold restAt;rw [if_neg (by omega),Nat.add_sub_cancel,List.getElem?_eq_getElem hls]
  have HOK:=Lib.hid (show okA p i arr (d+(arr - e))=(decide (max arr p.stops[i].opn≤p.stops[i].cls) && decide (dr≤t.t.drive)) by unfold okA;rw [hst,HTT.out,HDR.out])
  have HAD:=Lib.hid (show afD p s i (d+(arr - e))=if s.times[i].rest then 0 else dr by unfold afD;rw [hst,hra,HDR.out])
  have HAE:=Lib.hid (show afE p s i arr e=max arr p.stops[i].opn+p.stops[i].serv+(if s.times[i].rest then t.t.rest else 0) by unfold afE;rw [hst,hra,HTT.out])
  have HSP:=Lib.hid (fun wz (h:wz.heap[g]? = some (.cells (wkR m r A c s t dr e) 164)) (hb:Below w0.heap.size w0 wz)=>wstop_any (m:=m) (r:=r) (A:=A) (c:=c) (s:=s) (t:=t) (d:=dr) (e:=e) g i _ wz h (HM.out.below hb) HO.out (HR.out.below hb) hlt hso h8)
  have HRS:=Lib.hid (fun wz (h:wz.heap[g]? = some (.cells (wkR m r A c s t dr e) 164)) (hb:Below w0.heap.size w0 wz)=>wrests_any (m:=m) (r:=r) (t:=t) (d:=dr) (e:=e) g i wz h (HTM.out.below hb) hls (by have:=HSL.out;have:=HPL.out;omega))
  generalize p.stops[i]=st at *
  generalize s.times[i].rest=rs at *
  clear hst hso hra hin
  go_upto_region 10 with fail
  clear y9
  go_wp2_with fail
  refine (HSP.out w2 HL2.out.rg HL2.out.bel).mono ?_
  rintro x w3 ⟨rfl,hb3⟩
  have HL3:=Lib.hid (HL2.out.below hb3)
  have HK3:=Lib.hid (HK2.out.below hb3)
  have HWB:=Lib.hid (wbegin_any st arr w3)
  clear hb3 HL2 HK2
  by_cases h1:st.cls<max arr st.opn
  ·have HN:=Lib.hid (show okA p i arr (d+(arr - e))=false by rw [HOK.out,decide_eq_false (show ¬ max arr st.opn≤st.cls by omega)];rfl)
   rw [if_pos h1,if_pos h1] at HWB
   go_wp2_with fail
   refine HWB.out.mono ?_
   rintro x w4 ⟨rfl,hb4⟩
   have HK4:=Lib.hid (HK3.out.below hb4)
   have HB4:=Lib.hid (below_lift HL3.out.bel hb4)
   clear hb4
   go_wp2_with fail
   go_ret
   exact ArrE.no (by decide) HK4.out HB4.out HN.out
  ·have h1':¬ max arr st.opn > st.cls:=h1
   rw [if_neg h1',if_neg h1'] at HWB
   have hmx:0≤max arr st.opn∧max arr st.opn≤4096:=by omega
   have HMX:=Lib.hid (show ∃ b,b=max arr st.opn from ⟨_,rfl⟩)
   obtain ⟨bg,hbg⟩:=HMX.out
   have HBG:=Lib.hid hbg
   rw [← hbg] at HWB HOK HAE hmx
   have hbc:bg≤st.cls:=by omega
   clear hbg HMX h1 h1'
   go_wp2_with fail
   refine HWB.out.mono ?_
   rintro x w4 ⟨rfl,hb4⟩
   have HL4:=Lib.hid (HL3.out.below hb4)
   have HK4:=Lib.hid (HK3.out.below hb4)
   clear hb4 HL3 HK3 HWB
   by_cases h2:t.t.drive<dr
   ·have HN:=Lib.hid (show okA p i arr (d+(arr - e))=false by rw [HOK.out,decide_eq_false (show ¬ dr≤t.t.drive by omega)];simp)
    have HB4:=Lib.hid HL4.out.bel
    go_wp2_with fail
    go_ret
    exact ArrE.no (by decide) HK4.out HB4.out HN.out
   ·have HN:=Lib.hid (show okA p i arr (d+(arr - e))=true by rw [HOK.out,decide_eq_true hbc,decide_eq_true (by omega)];rfl)
    obtain ⟨dp,hdp⟩:∃ dp,dp=bg+st.serv+(if rs then t.t.rest else 0):=⟨_,rfl⟩
    have HDP:=Lib.hid hdp
    have hfd:=fld_serv st
    clear hdp
    go_wp2_with fail
    refine (HSP.out w4 HL4.out.rg HL4.out.bel).mono ?_
    rintro x w5 ⟨rfl,hb5⟩
    have HL5:=Lib.hid (HL4.out.below hb5)
    have HK5:=Lib.hid (HK4.out.below hb5)
    clear hb5 HL4 HK4
    go_wp2_with fail
    refine (HRS.out w5 HL5.out.rg HL5.out.bel).mono ?_
    rintro x w6 ⟨rfl,hw6⟩
    obtain rfl:=hw6.symm
    obtain ⟨n7,p7⟩:=new_at w5 (.cells #[.int .i64 arr,.int .i64 bg,.int .i64 (bg+st.serv),.bool rs] 158)
    have HL7:=Lib.hid (HL5.out.below n7)
    have HK7:=Lib.hid (HK5.out.below n7)
    have HAPT:=Lib.hid (show ∀ off sp,A2≠some ⟨w5.heap.size,off,sp⟩ from fun off sp e=>by
     rcases OwnR.form HL5.out.own with hf | ⟨g',hf⟩
     ·rw [hf] at e;cases e
     ·have h2:OwnR w5 w0.heap.size 158 4 (some ⟨g',0,none⟩) sh.times.length c2 (sh.times.flatMap timeC):=by rw [← hf];exact HL5.out.own
      have:=h2.typ.2.1
      rw [hf] at e
      injection e with e
      injection e with e _ _
      omega)
    have HNE:=Lib.hid (show w5.heap.size≠gs∧w5.heap.size≠g from ⟨fun e=>by have:=lt_heap HL5.out.rs;omega,fun e=>by have:=lt_heap HL5.out.rg;omega⟩)
    have HGB:=Lib.hid (show w0.heap.size≤w5.heap.size from HL5.out.bel.size)
    clear n7 HL5 HK5
    go_upto_region 16 with fail
    clear hfd
    generalize w5.alloc (.cells #[.int .i64 arr,.int .i64 bg,.int .i64 (bg+st.serv),.bool rs] 158)=w7 at *
    obtain ⟨gb,hgb⟩:∃ gb,gb=w5.heap.size:=⟨_,rfl⟩
    rw [← hgb] at p7 HAPT HNE HGB
    rw [← hgb]
    have HP7:=Lib.hid p7
    clear p7 hgb HSP HRS
    obtain ⟨d9,hd9⟩:∃ d9,d9=if rs then 0 else dr:=⟨_,rfl⟩
    have HD9:=Lib.hid (show d9=afD p s i (d+(arr - e)) by rw [HAD.out];exact hd9)
    have HE9:=Lib.hid (show dp=afE p s i arr e by rw [HAE.out];exact HDP.out)
    have HDD:=Lib.hid hd9
    clear hd9
    obtain ⟨q0,q1,q2,q3⟩:=cells4 HP7.out
    go_upto_if 85 with (fail)
    go_cut [] (fun wx=>LtS m r A c s t w0 g gs wx d9 e A2 c2 sh∧RKp g gs w wx∧wx.heap[gb]? = some (.cells #[.int .i64 arr,.int .i64 bg,.int .i64 dp,.bool rs] 158))
    case first =>
     as_aux_lemma =>
      cases rs with
      |true =>
       have hd9:d9=0:=by rw [HDD.out];rfl
       have hdp:dp=bg+st.serv+t.t.rest:=by rw [HDP.out];rfl
       have HD0:=Lib.hid hd9
       have HP0:=Lib.hid hdp
       have y25:=cellsX HL7.out.rg 25 (.int .i64 t.t.rest) rfl
       have f2:=frz HP7.out 2
       clear hd9 hdp
       go_upto_region 17 with fail
       go_region
       have hk:=(KpB.refl gb w7).store 2 (.int .i64 (bg+st.serv+t.t.rest))
       have HR8:=Lib.hid (show (w7.setCell ⟨gb,2,none⟩ (.int .i64 (bg+st.serv+t.t.rest))).drew.heap[gb]? = some (.cells #[.int .i64 arr,.int .i64 bg,.int .i64 (bg+st.serv+t.t.rest),.bool true] 158) from heap_put HP7.out)
       have HL8:=Lib.hid (show LtS m r A c s t w0 g gs (w7.setCell ⟨gb,2,none⟩ (.int .i64 (bg+st.serv+t.t.rest))).drew dr e A2 c2 sh from (LtS.other HL7.out HP7.out HAPT.out HNE.out.2 HNE.out.1 HGB.out 2 _).below (Below.refl _ _).drew)
       have HK8:=Lib.hid (show RKp g gs w (w7.setCell ⟨gb,2,none⟩ (.int .i64 (bg+st.serv+t.t.rest))).drew from (fun k cs ty h0 ht h3 h4=>hk.row (HK7.out k cs ty h0 ht h3 h4) (fun e=>by subst e;have h5:=HK7.out k cs ty h0 ht h3 h4;rw [HP7.out] at h5;injection h5 with h5;injection h5 with _ h5 _;exact ht h5.symm)))
       clear q0 q1 q2 q3 y25 f2 hk
       generalize (w7.setCell ⟨gb,2,none⟩ (.int .i64 (bg+st.serv+t.t.rest))).drew=w8 at *
       have y29:=cellsX HL8.out.rg 29 (.int .i64 dr) rfl
       have z29:=frz HL8.out.rg 29
       have HL9:=Lib.hid (HL8.out.putd 0)
       have HK9:=Lib.hid (HK8.out.put (.inl rfl) 29 (.int .i64 0))
       have HR9:=Lib.hid (((KpB.refl g w8).store 29 (.int .i64 0)).row HR8.out HNE.out.2)
       go_wp2_with fail
       go_meet
       rw [HD0.out,HP0.out]
       exact ⟨HL9.out,HK9.out,HR9.out⟩
      |false =>
       have hd9:d9=dr:=by rw [HDD.out];rfl
       have hdp:dp=bg+st.serv:=by rw [HDP.out];show bg+st.serv+0=_;rw [Int.add_zero]
       have HD0:=Lib.hid hd9
       have HP0:=Lib.hid hdp
       clear hd9 hdp
       go_wp2_with fail
       go_meet
       rw [HD0.out,HP0.out]
       exact ⟨HL7.out,HK7.out,HP7.out⟩
    case rest =>
     obtain ⟨hl8,hk8,hr8⟩:=hcut
     have HL8:=Lib.hid hl8
     have HK8:=Lib.hid hk8
     have HR8:=Lib.hid hr8
     clear hl8 hk8 hr8 q0 q1 q2 q3 HL7 HK7 HP7
     obtain ⟨q0,q1,q2,q3⟩:=cells4 HR8.out
     have y30:=cellsX HL8.out.rg 30 (.int .i64 e) rfl
     have z30:=frz HL8.out.rg 30
     have HLQ:=Lib.hid (HL8.out.pute dp)
     have HKQ:=Lib.hid (HK8.out.put (.inl rfl) 30 (.int .i64 dp))
     have HRQ:=Lib.hid (((KpB.refl g wc).store 30 (.int .i64 dp)).row HR8.out HNE.out.2)
     go_upto_region 20 with fail
     clear q0 q1 q2 q3 y30 z30 HL8 HK8 HR8
     generalize wc.setCell ⟨g,30,none⟩ (.int .i64 dp)=wq at *
     have HLD:=Lib.hid (HLQ.out.below (new_at wq (.cells #[.int .i64 arr,.int .i64 bg,.int .i64 dp,.bool rs] 158)).1.drew)
     have HRD:=Lib.hid (row_keep HRQ.out (new_at wq (.cells #[.int .i64 arr,.int .i64 bg,.int .i64 dp,.bool rs] 158)).1.drew)
     have HKD:=Lib.hid (HKQ.out.below (new_at wq (.cells #[.int .i64 arr,.int .i64 bg,.int .i64 dp,.bool rs] 158)).1.drew)
     obtain ⟨e0,e1,e2,e3,e4⟩:=cells5 HLQ.out.rs
     obtain ⟨_,_,ea2,_,_⟩:=cells5 (row_keep HLQ.out.rs (new_at wq (.cells #[.int .i64 arr,.int .i64 bg,.int .i64 dp,.bool rs] 158)).1)
     have HAP:=HAPT
     have HNE0:=Lib.hid HNE.out.1
     have hS0:(fun w'=>w'.heap[gb]? = some (.cells #[.int .i64 arr,.int .i64 bg,.int .i64 dp,.bool rs] 158)) wq.drew:=HRQ.out
     refine wp_region_held_drew (S:=fun w'=>w'.heap[gb]? = some (.cells #[.int .i64 arr,.int .i64 bg,.int .i64 dp,.bool rs] 158)) (by kernel_rfl) hS0 (fun hHeld=>?_)
     refine wpAnyH_take (i:=0) (v:=?_) (by simp only [List.getElem?_toArray,List.getElem?_cons_zero];rfl) (by kernel_rfl) (by kernel_rfl) (by kernel_rfl) (by exact fun _ _ _ h=>h) (Or.inl ⟨by rfl,?_⟩) (by assumption) ?_
     rotate_left
     ·(intro w hSw;(try dsimp only at hSw);go_simp;(try with_reducible rfl))
     (try simp only [Act.put,List.setIfInBounds_toArray,List.set_cons_zero,List.set_cons_succ])
     refine wpAnyH_take (i:=1) (v:=?_) (by simp only [List.getElem?_toArray,List.getElem?_cons_succ,List.getElem?_cons_zero];rfl) (by kernel_rfl) (by kernel_rfl) (by kernel_rfl) (by exact fun _ _ _ h=>h) (Or.inl ⟨by rfl,?_⟩) (by assumption) ?_
     rotate_left
     ·(intro w hSw;(try dsimp only at hSw);go_simp;(try with_reducible rfl))
     (try simp only [Act.put,List.setIfInBounds_toArray,List.set_cons_zero,List.set_cons_succ])
     refine wpAnyH_take (i:=2) (v:=?_) (by simp only [List.getElem?_toArray,List.getElem?_cons_succ,List.getElem?_cons_zero];rfl) (by kernel_rfl) (by kernel_rfl) (by kernel_rfl) (by exact fun _ _ _ h=>h) (Or.inl ⟨by rfl,?_⟩) (by assumption) ?_
     rotate_left
     ·(intro w hSw;(try dsimp only at hSw);go_simp;(try with_reducible rfl))
     (try simp only [Act.put,List.setIfInBounds_toArray,List.set_cons_zero,List.set_cons_succ])
     refine wpAnyH_take (i:=3) (v:=?_) (by simp only [List.getElem?_toArray,List.getElem?_cons_succ,List.getElem?_cons_zero];rfl) (by kernel_rfl) (by kernel_rfl) (by kernel_rfl) (by exact fun _ _ _ h=>h) (Or.inl ⟨by rfl,?_⟩) (by assumption) ?_
     rotate_left
     ·(intro w hSw;(try dsimp only at hSw);go_simp;(try with_reducible rfl))
     (try simp only [Act.put,List.setIfInBounds_toArray,List.set_cons_zero,List.set_cons_succ])
     refine wpAnyH_take (i:=5) (v:=.agg #[.int .i64 arr,.int .i64 bg,.int .i64 dp,.bool rs]) (by simp only [List.getElem?_toArray,List.getElem?_cons_succ,List.getElem?_cons_zero];rfl) (by kernel_rfl) (by kernel_rfl) (by kernel_rfl) (by exact fun _ _ _ h=>h) (Or.inl ⟨by rfl,?_⟩) (by assumption) ?_
     ·(intro w hSw;obtain ⟨q0,q1,q2,q3⟩:=cells4 hSw;go_simp;(try with_reducible rfl))
     (try simp only [Act.put,List.setIfInBounds_toArray,List.set_cons_zero,List.set_cons_succ])
     refine wpAnyH_ready (rs:=[4,6]) (by kernel_rfl) (by simp) (AllReadyH.cons (by simp only [List.getElem?_toArray,List.getElem?_cons_succ,List.getElem?_cons_zero];rfl) (fun K hK=>?_) (AllReadyH.cons (by simp only [List.getElem?_toArray,List.getElem?_cons_succ,List.getElem?_cons_zero];rfl) (fun K hK=>?_) AllReadyH.nil))
     ·go_simp
      refine hK.out _ _ (by assumption) (fun hHeld=>?_)
      clear hK K
      (try simp only [Act.put,List.setIfInBounds_toArray,List.set_cons_zero,List.set_cons_succ])
      refine wpAnyH_ready (rs:=[6]) (by kernel_rfl) (by simp) (AllReadyH.cons (by simp only [List.getElem?_toArray,List.getElem?_cons_succ,List.getElem?_cons_zero];rfl) (fun K hK=>?_) AllReadyH.nil)
      go_simp
      refine hK.out _ _ (row_keep hS0 (new_at wq.drew _).1) (fun hHeld=>?_)
      clear hK K
      (try simp only [Act.put,List.setIfInBounds_toArray,List.set_cons_zero,List.set_cons_succ])
      refine wpAnyH_ready (rs:=[7]) (by kernel_rfl) (by simp) (AllReadyH.cons (by simp only [List.getElem?_toArray,List.getElem?_cons_succ,List.getElem?_cons_zero];rfl) (fun K hK=>?_) AllReadyH.nil)
      refine step_appk el_tm rfl _ _ rfl w0.heap.size A2 sh.times.length c2 (sh.times.flatMap timeC) ((wq.alloc (.cells #[.int .i64 arr,.int .i64 bg,.int .i64 dp,.bool rs] 158)).drew) wq.heap.size [.int .i64 arr,.int .i64 bg,.int .i64 dp,.bool rs] rfl HLD.out.own rfl rfl (fun j u hj=>by simpa using cells_newP (w:=wq) (e:=158) j u hj) (by intro u hu;simp at hu;rcases hu with rfl | rfl | rfl | rfl <;> rfl) (by unfold maxLen;omega) (by omega) HLD.out.bel.size ?_
      intro A5 c5 w5 hown5 hb5 hk5
      have p5:=hk5.row HLD.out.rs (OwnR.far HLD.out.own HLD.out.rs tm_sh)
      obtain ⟨e0,e1,e2,e3,e4⟩:=cells5 p5
      have f2:=frz p5 2
      have hgb5:=hk5.row HRD.out HAP.out
      refine hK.out _ _ hgb5 (fun hHeld5=>?_)
      clear hK K
      (try simp only [Act.put,List.setIfInBounds_toArray,List.set_cons_zero,List.set_cons_succ])
      refine wpAnyH_take (i:=8) (v:=?_) (by simp only [List.getElem?_toArray,List.getElem?_cons_succ,List.getElem?_cons_zero];rfl) (by kernel_rfl) (by kernel_rfl) (by kernel_rfl) (by exact fun _ _ _ h=>h) (Or.inl ⟨by rfl,?_⟩) (by assumption) ?_
      rotate_left
      ·(intro w hSw;(try dsimp only at hSw);go_simp;(try with_reducible rfl))
      (try simp only [Act.put,List.setIfInBounds_toArray,List.set_cons_zero,List.set_cons_succ])
      refine wpAnyH_take (i:=9) (v:=?_) (by simp only [List.getElem?_toArray,List.getElem?_cons_succ,List.getElem?_cons_zero];rfl) (by kernel_rfl) (by kernel_rfl) (by kernel_rfl) (by exact fun _ _ _ h=>h) (Or.inl ⟨by rfl,?_⟩) (by assumption) ?_
      rotate_left
      ·(intro w hSw;(try dsimp only at hSw);go_simp;(try with_reducible rfl))
      (try simp only [Act.put,List.setIfInBounds_toArray,List.set_cons_zero,List.set_cons_succ])
      refine wpAnyH_ready (rs:=[10]) (by kernel_rfl) (by simp) (AllReadyH.cons (by simp only [List.getElem?_toArray,List.getElem?_cons_succ,List.getElem?_cons_zero];rfl) (fun K hK=>?_) AllReadyH.nil)
      go_simp
      refine hK.out _ _ (((KpB.refl gs w5).store 2 (.slice A5 (sh.times.length+1) c5)).row hgb5 HNE.out.1) (fun hHeld6=>?_)
      clear hK K
      (try simp only [Act.put])
      refine wpAnyH_done (by kernel_rfl) ?_ _
      have ho5:TmO w5 w0.heap.size A5 c5 (sh.times ++ [⟨arr,bg,dp,rs⟩]):=by
       show OwnR _ _ _ _ _ _ _ _
       rw [snoc_len,← flat_snoc]
       exact hown5
      have hfin:=HLD.out.app hb5 hk5 ho5
      rw [snoc_len] at hfin
      have HLF:=Lib.hid hfin
      have HKF:=Lib.hid ((HKD.out.app hk5 HLD.out.own).put (.inr rfl) 2 (.slice A5 (sh.times.length+1) c5))
      clear hfin ho5 hown5 hb5 hk5
      go_wp2_with fail
      go_ret
      exact ArrE.yes HKF.out HN.out HLF.out HD9.out HE9.out (by simp)
     ·go_simp
      refine hK.out _ _ (row_keep hS0 (new_at wq.drew _).1) (fun hHeld=>?_)
      clear hK K
      (try simp only [Act.put,List.setIfInBounds_toArray,List.set_cons_zero,List.set_cons_succ])
      refine wpAnyH_ready (rs:=[4]) (by kernel_rfl) (by simp) (AllReadyH.cons (by simp only [List.getElem?_toArray,List.getElem?_cons_succ,List.getElem?_cons_zero];rfl) (fun K hK=>?_) AllReadyH.nil)
      go_simp
      refine hK.out _ _ (by assumption) (fun hHeld=>?_)
      clear hK K
      (try simp only [Act.put,List.setIfInBounds_toArray,List.set_cons_zero,List.set_cons_succ])
      refine wpAnyH_ready (rs:=[7]) (by kernel_rfl) (by simp) (AllReadyH.cons (by simp only [List.getElem?_toArray,List.getElem?_cons_succ,List.getElem?_cons_zero];rfl) (fun K hK=>?_) AllReadyH.nil)
      refine step_appk el_tm rfl _ _ rfl w0.heap.size A2 sh.times.length c2 (sh.times.flatMap timeC) ((wq.alloc (.cells #[.int .i64 arr,.int .i64 bg,.int .i64 dp,.bool rs] 158)).drew) wq.heap.size [.int .i64 arr,.int .i64 bg,.int .i64 dp,.bool rs] rfl HLD.out.own rfl rfl (fun j u hj=>by simpa using cells_newP (w:=wq) (e:=158) j u hj) (by intro u hu;simp at hu;rcases hu with rfl | rfl | rfl | rfl <;> rfl) (by unfold maxLen;omega) (by omega) HLD.out.bel.size ?_
      intro A5 c5 w5 hown5 hb5 hk5
      have p5:=hk5.row HLD.out.rs (OwnR.far HLD.out.own HLD.out.rs tm_sh)
      obtain ⟨e0,e1,e2,e3,e4⟩:=cells5 p5
      have f2:=frz p5 2
      have hgb5:=hk5.row HRD.out HAP.out
      refine hK.out _ _ hgb5 (fun hHeld5=>?_)
      clear hK K
      (try simp only [Act.put,List.setIfInBounds_toArray,List.set_cons_zero,List.set_cons_succ])
      refine wpAnyH_take (i:=8) (v:=?_) (by simp only [List.getElem?_toArray,List.getElem?_cons_succ,List.getElem?_cons_zero];rfl) (by kernel_rfl) (by kernel_rfl) (by kernel_rfl) (by exact fun _ _ _ h=>h) (Or.inl ⟨by rfl,?_⟩) (by assumption) ?_
      rotate_left
      ·(intro w hSw;(try dsimp only at hSw);go_simp;(try with_reducible rfl))
      (try simp only [Act.put,List.setIfInBounds_toArray,List.set_cons_zero,List.set_cons_succ])
      refine wpAnyH_take (i:=9) (v:=?_) (by simp only [List.getElem?_toArray,List.getElem?_cons_succ,List.getElem?_cons_zero];rfl) (by kernel_rfl) (by kernel_rfl) (by kernel_rfl) (by exact fun _ _ _ h=>h) (Or.inl ⟨by rfl,?_⟩) (by assumption) ?_
      rotate_left
      ·(intro w hSw;(try dsimp only at hSw);go_simp;(try with_reducible rfl))
      (try simp only [Act.put,List.setIfInBounds_toArray,List.set_cons_zero,List.set_cons_succ])
      refine wpAnyH_ready (rs:=[10]) (by kernel_rfl) (by simp) (AllReadyH.cons (by simp only [List.getElem?_toArray,List.getElem?_cons_succ,List.getElem?_cons_zero];rfl) (fun K hK=>?_) AllReadyH.nil)
      go_simp
      refine hK.out _ _ (((KpB.refl gs w5).store 2 (.slice A5 (sh.times.length+1) c5)).row hgb5 HNE.out.1) (fun hHeld6=>?_)
      clear hK K
      (try simp only [Act.put])
      refine wpAnyH_done (by kernel_rfl) ?_ _
      have ho5:TmO w5 w0.heap.size A5 c5 (sh.times ++ [⟨arr,bg,dp,rs⟩]):=by
       show OwnR _ _ _ _ _ _ _ _
       rw [snoc_len,← flat_snoc]
       exact hown5
      have hfin:=HLD.out.app hb5 hk5 ho5
      rw [snoc_len] at hfin
      have HLF:=Lib.hid hfin
      have HKF:=Lib.hid ((HKD.out.app hk5 HLD.out.own).put (.inr rfl) 2 (.slice A5 (sh.times.length+1) c5))
      clear hfin ho5 hown5 hb5 hk5
      go_wp2_with fail
      go_ret
      exact ArrE.yes HKF.out HN.out HLF.out HD9.out HE9.out (by simp)
end
end Go.Proofs.YtjcekdiocliddaaGreatDoor
namespace Go.Proofs.YtjcekdiocliddaaGreatDoor
open Go.RowKit Num Txt Pf Tk
set_option linter.unusedVariables false
section
variable {P:Program} {ops:Array Oper} {rest:List Oper} {o:Oper} {a:Act} {Q:Exit→Act→World→Prop}
theorem step_appm {K:Act→World→Prop} {E:Prop} {t e:TypeId} {z:Value} {sz bytes:Nat} (he:ElemR P t e z sz bytes) (hgd:o.guard=none) (s x:Operand) (ho:o.op=.call { callee:=.builtin .append,args:=#[s,x],argTypes:=#[t,t] })
  (Bs:Nat) (A:Option Addr) (n c:Nat) (xs:List Value) (w:World) (X:Option Addr) (m cx:Nat) (news:List Value) (hs:a.eval s=.slice A n c) (hown:OwnR w Bs e sz A n c xs)
  (hx:a.eval x=.slice X m cx) (hX:Cells w X news) (hX0:X=none→cx=0) (hm:news.length=m*sz) (h1:∀ u ∈ news,u.oneCell'=true) (h63:n+m≤maxLen) (hby:(n+m)*bytes≤140737488355328) (hbase:Bs≤w.heap.size)
  (hK:∀ A' c' w',OwnR w' Bs e sz A' (n+m) c' (xs ++ news)→Below Bs w w'→KpA A w w'→K (a.put o.dst (.slice A' (n+m) c')) w') :
  if Region.wanted o (yielded ops a.tmps)=true then Oper.wp P o a w K Q else E:=by
 obtain ⟨ht,⟨i,hi,hz,hsz,hb⟩,hzs,hpos⟩:=he
 have hw:Region.wanted o (yielded ops a.tmps)=true:=by simp [Region.wanted,hgd]
 rw [if_pos hw]
 have hkp:∀ {w':World},w.grownBy w' (Value.slice A n c).ownBlock→KpA A w w':=fun {w'} h3=>⟨h3.size,fun k hk hA=>h3.block k hk (by
  rcases hown.2 with ⟨hv,_⟩ | ⟨g',cap',cur',hv,hg',_⟩
  ·rw [hv];simp [Value.ownBlock]
  ·injection hv with hv1 _ _
   rw [hv1]
   intro e
   have:k=g':=by simpa [Value.ownBlock] using e
   exact hA 0 none (by rw [hv1,this]))⟩
 cases X with
 |none =>
  have hv:news=[]:=by
   cases news with
   |nil=>rfl
   |cons x xs=>obtain ⟨b,off,e,_⟩:=hX (by simp);cases e
  have hcx:=hX0 rfl
  subst hcx hv
  obtain rfl:m=0:=by
   rcases Nat.eq_zero_or_pos m with h | h
   ·exact h
   ·have:=Nat.mul_pos h hpos;simp at hm;omega
  have hrun:=run_append_owned_none (P:=P) (w:=w) Bs t o.type e i sz ht hi (.slice A n c) n xs hown
  unfold Oper.wp
  simp [execOp,ho,resolve,invoke,builtin,hs,hx,hrun,Result.andThen]
  exact hK A c w (by rw [List.append_nil];exact hown) (Below.refl _ _) ⟨Nat.le_refl _,fun _ _ _=>rfl⟩
 |some ad =>
  have hcell:∀ j u,news[j]? = some u→w.cell? (ad.add j)=some u:=by
   intro j u hu
   have h0:0<news.length:=by have:=(List.getElem?_eq_some_iff.1 hu).1;omega
   obtain ⟨b,off,e,hb,h2⟩:=hX h0
   injection e with e
   subst e
   rw [Go.WideShapes.add_plain]
   exact h2 j u hu
  obtain ⟨v',w',hrun,h2,h3,_⟩:=run_append_own (P:=P) w Bs t o.type e i z sz bytes ht hi hz hsz hb hzs hpos (.slice A n c) n xs hown ad m cx news hm hcell h1 h63 hby hbase
  obtain ⟨A2,c2,rfl⟩:=ownr_slice h2
  unfold Oper.wp
  simp [execOp,ho,resolve,invoke,builtin,hs,hx,hrun,Result.andThen]
  exact hK A2 c2 w' h2 ((Below.refl _ _).grown h3 hbase hown.rowb) (hkp h3)
end
set_option maxRecDepth 100000 in
theorem built_wk (a0 a1 a2 a3 a4 a5 b0 b1 b2 b3 c0 c1 c2 c3 c4 d0 d1 d2 d3 d4 d5 d6 d7 d8 d9 e0 e1 e2 e3:Value):Tryz.prog.built 164 [(0,.agg #[a0,a1,a2,a3,a4,a5]),(1,.agg #[b0,b1,b2,b3]),(2,.agg #[c0,c1,c2,c3,c4]),(3,.agg #[d0,d1,d2,d3,d4,d5,d6,d7,d8,d9,e0,e1,e2,e3])]=some #[a0,a1,a2,a3,a4,a5,b0,b1,b2,b3,c0,c1,c2,c3,c4,d0,d1,d2,d3,d4,d5,d6,d7,d8,d9,e0,e1,e2,e3,.int .i64 0,.int .i64 0]:=by
 kernel_rfl
theorem built_wkQ (m:InsM) (r:RouM) (A:Option Addr) (c:Nat) (s:SheetV) (t:TypeM):Tryz.prog.built 164 [(0,.agg (insQ m)),(1,.agg (rouR r)),(2,.agg (sheetQ A c s)),(3,.agg t.cells.toArray)]=some (wkR m r A c s t 0 0):=built_wk ..
def LateE (p:TripV) (s:SheetV) (n:Nat) (ticks:Int) (w:World) (e:Ending) (w':World):Prop:=∃ (A2:Option Addr) (c2:Nat) (sh:SheetV) (k:Int),e=.returned (.tuple #[sheetA A2 c2 sh,.int .i64 k])∧(k=0↔lateP p s n ticks=true)∧Below w.heap.size w w'
theorem LateE.no {p:TripV} {s:SheetV} {n:Nat} {ticks:Int} {w w':World} {k:Int} (hk:k≠0) (h:lateP p s n ticks=false) (hb:Below w.heap.size w w'):LateE p s n ticks w (.returned (.tuple #[sheetA none 0 shZ,.int .i64 k])) w':=⟨none,0,shZ,k,rfl,⟨fun h2=>absurd h2 hk,fun h2=>by rw [h] at h2;cases h2⟩,hb⟩
theorem LateE.yes {p:TripV} {s:SheetV} {n:Nat} {ticks:Int} {w w':World} {A2:Option Addr} {c2:Nat} {sh:SheetV} (h:lateP p s n ticks=true) (hb:Below w.heap.size w w'):LateE p s n ticks w (.returned (.tuple #[sheetA A2 c2 sh,.int .i64 0])) w':=⟨A2,c2,sh,0,rfl,⟨fun _=>h,fun _=>rfl⟩,hb⟩
theorem lateF_no {p:TripV} {s:SheetV} {f i:Nat} {arr d e:Int} (h:okA p i arr (d+(arr - e))=false):lateF p s (f+1) i arr d e=false:=by
 unfold okA at h
 unfold lateF
 cases hs:p.stops[i]? with
 |none =>
  rw [hs] at h
  simp only at h ⊢
  rw [show d+arr - e=d+(arr - e) by omega]
  exact h
 |some st =>
  rw [hs] at h
  simp only at h ⊢
  by_cases h1:max arr st.opn > st.cls
  ·rw [if_pos h1]
  ·rw [if_neg h1]
   rw [decide_eq_true (show max arr st.opn≤st.cls by omega),Bool.true_and,decide_eq_false_iff_not] at h
   rw [if_pos (by omega)]
theorem lateF_end {p:TripV} {s:SheetV} {f i:Nat} {arr d e:Int} (hi:p.stops[i]? = none) (h:okA p i arr (d+(arr - e))=true):lateF p s (f+1) i arr d e=true:=by
 unfold okA at h
 unfold lateF
 rw [hi] at h ⊢
 simp only at h ⊢
 rw [show d+arr - e=d+(arr - e) by omega]
 exact h
theorem lateF_step {p:TripV} {s:SheetV} {f i:Nat} {arr d e ga gm gz:Int} {st:StopV} (hi:p.stops[i]? = some st) (h:okA p i arr (d+(arr - e))=true) (hg:goP p.x p.t.prof st.place (endP p (i+1)) (afE p s i arr e)=(ga,gm,gz)):lateF p s (f+1) i arr d e=if gz≠0 then false else lateF p s f (i+1) ga (afD p s i (d+(arr - e))) (afE p s i arr e):=by
 have hE:afE p s i arr e=max arr st.opn+st.serv+if restAt s (i+1) then p.t.rest else 0:=by unfold afE;rw [hi]
 have hD:afD p s i (d+(arr - e))=if restAt s (i+1) then 0 else d+(arr - e):=by unfold afD;rw [hi]
 unfold okA at h
 rw [hi] at h
 simp only [Bool.and_eq_true,decide_eq_true_eq] at h
 rw [lateF,hi]
 simp only
 rw [if_neg (by omega),if_neg (by omega),← hE,hg,hD,show d+arr - e=d+(arr - e) by omega]
theorem okA_b {p:TripV} {i:Nat} {arr dr:Int} (h:okA p i arr dr=true):dr≤p.t.drive:=by
 unfold okA at h
 split at h <;> (simp only [Bool.and_eq_true,decide_eq_true_eq] at h;exact h.2)
theorem af_b {p:TripV} {s:SheetV} {i:Nat} {arr dr e:Int} {st:StopV} (hp:TripOK p) (hi:p.stops[i]? = some st) (h:okA p i arr dr=true) (ha:0≤arr):(0≤afE p s i arr e∧afE p s i arr e≤20000)∧(afD p s i dr=0∨afD p s i dr=dr):=by
 obtain ⟨h0,h1,h2,h3,h4⟩:=stop_le (hp.stops st (List.mem_of_getElem? hi))
 have hr:=hp.t.rest
 unfold okA at h
 rw [hi] at h
 simp only [Bool.and_eq_true,decide_eq_true_eq] at h
 unfold afE afD
 rw [hi]
 simp only
 refine ⟨?_,?_⟩
 ·split <;> omega
 ·split
  ·exact Or.inl rfl
  ·exact Or.inr rfl
end Go.Proofs.YtjcekdiocliddaaGreatDoor

/- drive.plan. (Printed by wip/tk/mkTlG.py.) -/
import Derived.Test.YtjcekdiocliddaaGreatDoorG71
import Derived.Test.YtjcekdiocliddaaGreatDoorG70
namespace Go.Proofs.YtjcekdiocliddaaGreatDoor
open Go.RowKit Num Txt Pf Tk
set_option linter.unusedVariables false
attribute [local go_sem] B_size B_get B_toList B_mk B_extract B_append
def rouR (r:RouM):Array Value:=#[.int .i64 r.r.kind,.int .i64 r.r.start,.slice r.A r.r.rests.length r.ca,.slice r.C r.r.vis.length r.cc]
def insQ (m:InsM):Array Value:=#[.slice m.pA m.places.length m.pc,.slice m.aA m.arcs.length m.ac,.slice m.tA m.types.length m.tc,.slice m.oA m.ords.length m.oc,.slice m.xA m.apart.length m.xc,.slice m.bA m.before.length m.bc]
def tripZ:TripM:=⟨⟨none,0,[],none,0,[],none,0,[],none,0,[],none,0,[],none,0,[]⟩,⟨none,0,⟨[],0,0,0,[],0,0,0,0,0,0,0,0,0⟩⟩,⟨none,0,none,0,⟨0,0,[],[]⟩⟩,none,0,[]⟩
set_option maxRecDepth 100000 in
theorem built_trip (a0 a1 a2 a3 a4 a5 a6 a7 a8 a9 b0 b1 b2 b3 b4 b5 b6 b7 b8 b9 c0 c1 c2 c3:Value):Tryz.prog.built 84 [(0,.agg #[a0,a1,a2,a3,a4,a5]),(1,.agg #[a6,a7,a8,a9,b0,b1,b2,b3,b4,b5,b6,b7,b8,b9]),(2,.agg #[c0,c1,c2,c3])]=some #[a0,a1,a2,a3,a4,a5,a6,a7,a8,a9,b0,b1,b2,b3,b4,b5,b6,b7,b8,b9,c0,c1,c2,c3,.slice none 0 0]:=by
 kernel_rfl
set_option maxRecDepth 100000 in
theorem built_tripQ (m:InsM) (t:TypeM) (r:RouM):Tryz.prog.built 84 [(0,.agg (insQ m)),(1,.agg t.cells.toArray),(2,.agg (rouR r))]=some (tripR ⟨m,t,r,none,0,[]⟩) :=
 built_trip (.slice m.pA m.places.length m.pc) (.slice m.aA m.arcs.length m.ac) (.slice m.tA m.types.length m.tc) (.slice m.oA m.ords.length m.oc) (.slice m.xA m.apart.length m.xc) (.slice m.bA m.before.length m.bc) (.string (B t.t.name)) (.int .i64 t.t.count) (.int .i64 t.t.frm) (.int .i64 t.t.tgt) (.slice t.A t.t.cap.length t.ca) (.int .i64 t.t.skills) (.int .i64 t.t.prof) (.int .i64 t.t.opn) (.int .i64 t.t.cls) (.int .i64 t.t.drive) (.int .i64 t.t.rest) (.int .i64 t.t.fixed) (.int .i64 t.t.mile) (.int .i64 t.t.tick) (.int .i64 r.r.kind) (.int .i64 r.r.start) (.slice r.A r.r.rests.length r.ca) (.slice r.C r.r.vis.length r.cc)
def PlanE (m:InsM) (r:RouM) (w:World) (e:Ending) (w':World):Prop:=∃ (q:TripM) (ok:Bool),e=.returned (.tuple #[tripA q,.bool ok])∧Below w.heap.size w w'∧(ok=true→TripAt w' q∧q.m=m∧q.r=r)∧(ok=false→∀ p,¬ PlanIs m.v r.r p)
theorem PlanE.no {m:InsM} {r:RouM} {w w':World} (h:∀ p,¬ PlanIs m.v r.r p) (hb:Below w.heap.size w w'):PlanE m r w (.returned (.tuple #[.agg #[.slice none 0 0,.slice none 0 0,.slice none 0 0,.slice none 0 0,.slice none 0 0,.slice none 0 0,.string (B []),.int .i64 0,.int .i64 0,.int .i64 0,.slice none 0 0,.int .i64 0,.int .i64 0,.int .i64 0,.int .i64 0,.int .i64 0,.int .i64 0,.int .i64 0,.int .i64 0,.int .i64 0,.int .i64 0,.int .i64 0,.slice none 0 0,.slice none 0 0,.slice none 0 0],.bool false])) w':=⟨tripZ,false,rfl,hb,fun h=>Bool.noConfusion h,fun _=>h⟩
theorem PlanE.yes {m:InsM} {r:RouM} {w w':World} {q:TripM} (hq:TripAt w' q) (h1:q.m=m) (h2:q.r=r) (hb:Below w.heap.size w w'):PlanE m r w (.returned (.tuple #[tripA q,.bool true])) w':=⟨q,true,rfl,hb,fun _=>⟨hq,h1,h2⟩,fun h=>Bool.noConfusion h⟩
def fitR (m:InsM) (r:RouV):Bool:=!(decide (r.kind<0) || decide ((m.types.length:Int)≤r.kind) || decide (r.start<0) || decide (4096<r.start) || decide (20<r.vis.length))
theorem fitR_no {m:InsM} {r:RouV} (h:fitR m r=false) (p:TripV):¬ PlanIs m.v r p:=by
 intro hp
 unfold fitR at h
 rw [Bool.not_eq_false'] at h
 simp only [Bool.or_eq_true,decide_eq_true_eq] at h
 have h1:=hp.k0
 have h2:=hp.start
 have h3:=hp.n
 have h4:=(List.getElem?_eq_some_iff.1 hp.t).1
 have h5:m.v.types.length=m.types.length:=by show (m.types.map _).length=_;rw [List.length_map]
 omega
theorem fitR_yes {m:InsM} {r:RouV} (h:fitR m r=true):0≤r.kind∧r.kind<(m.types.length:Int)∧0≤r.start∧r.start≤4096∧r.vis.length≤20:=by
 unfold fitR at h
 rw [Bool.not_eq_true'] at h
 simp only [Bool.or_eq_false_iff,decide_eq_false_iff_not] at h
 omega
theorem stp_trip:134≠84:=by decide
theorem stp_ins:134≠30:=by decide
theorem stopsOf_none (x:InsV):∀ (vs:List (Int × Bool)) (k:Nat) (hk:k<vs.length),stopOf x vs[k]=none→stopsOf x vs=none
 |[],k,hk,_=>absurd hk (by simp)
 |v :: vs,0,_,h=>by
  have h:stopOf x v=none:=h
  rw [stopsOf,h]
 |v :: vs,k+1,hk,h=>by
  rw [stopsOf,stopsOf_none x vs k (by simpa using hk) h]
  cases stopOf x v <;> rfl
set_option maxHeartbeats 16000000 in
set_option maxRecDepth 100000 in
theorem dplan_any (m:InsM) (r:RouM) (w:World) (hm:InsAt w m) (hok:InsOK m.v) (hr:RouAt w r) (hvl:r.r.vis.length≤8) :
  Calls Tryz.prog 24 #[insA m,rouA r] w (PlanE m r w):=by
 obtain ⟨k1,k2,k3,k4⟩:=alloc3 w (.cells (insQ m) 30) (.cells (rouR r) 34) (.cells (tripR tripZ) 84)
 have HB:=Lib.hid k4
 have HK1:=Lib.hid k1
 have HK2:=Lib.hid k2
 have HK3:=Lib.hid k3
 have HM:=Lib.hid hm
 have HO:=Lib.hid hok
 have HR:=Lib.hid hr
 have hnt:m.types.length≤2:=by have:=hok.nt;unfold InsM.v at this;simpa using this
 have hno:m.ords.length≤3:=by have:=hok.no;unfold InsM.v at this;simpa using this
 clear hm hok hr k1 k2 k3 k4
 go_enter Tryz.func24,Tryz.ntmps24
 (try simp only [B_mk])
 go_upto_region 1 with fail
 rw [show ((w.alloc (.cells #[.slice m.pA m.places.length m.pc,.slice m.aA m.arcs.length m.ac,.slice m.tA m.types.length m.tc,.slice m.oA m.ords.length m.oc,.slice m.xA m.apart.length m.xc,.slice m.bA m.before.length m.bc] 30)).alloc (.cells #[.int .i64 r.r.kind,.int .i64 r.r.start,.slice r.A r.r.rests.length r.ca,.slice r.C r.r.vis.length r.cc] 34)).alloc (.cells #[.slice none 0 0,.slice none 0 0,.slice none 0 0,.slice none 0 0,.slice none 0 0,.slice none 0 0,.string (B []),.int .i64 0,.int .i64 0,.int .i64 0,.slice none 0 0,.int .i64 0,.int .i64 0,.int .i64 0,.int .i64 0,.int .i64 0,.int .i64 0,.int .i64 0,.int .i64 0,.int .i64 0,.int .i64 0,.int .i64 0,.slice none 0 0,.slice none 0 0,.slice none 0 0] 84)=((w.alloc (.cells (insQ m) 30)).alloc (.cells (rouR r) 34)).alloc (.cells (tripR tripZ) 84) from rfl]
 generalize ((w.alloc (.cells (insQ m) 30)).alloc (.cells (rouR r) 34)).alloc (.cells (tripR tripZ) 84)=w3 at *
 obtain ⟨g1,hg1⟩:∃ g1,g1=w.heap.size:=⟨_,rfl⟩
 obtain ⟨g2,hg2⟩:∃ g2,g2=w.heap.size+1:=⟨_,rfl⟩
 obtain ⟨g3,hg3⟩:∃ g3,g3=w.heap.size+1+1:=⟨_,rfl⟩
 rw [← hg3] at HK3
 rw [← hg3,← hg2,← hg1]
 rw [← hg2] at HK2
 rw [← hg1] at HK1
 have HG:=Lib.hid (show w.heap.size≤g3 by omega)
 clear hg1 hg2 hg3
 go_cut [37] (fun s wx=>s=.bool (!fitR m r.r)∧wx=w3)
 case first =>
  as_aux_lemma =>
   have i2:=cellsX HK1.out 2 (.slice m.tA m.types.length m.tc) rfl
   have r0:=cellsX HK2.out 0 (.int .i64 r.r.kind) rfl
   have r1:=cellsX HK2.out 1 (.int .i64 r.r.start) rfl
   have r3:=cellsX HK2.out 3 (.slice r.C r.r.vis.length r.cc) rfl
   have HF:=Lib.hid (show (!fitR m r.r)=(decide (r.r.kind<0) || decide ((m.types.length:Int)≤r.r.kind) || decide (r.r.start<0) || decide (4096<r.r.start) || decide (20<r.r.vis.length)) by unfold fitR;rw [Bool.not_not])
   generalize fitR m r.r=ft at *
   have hv20:¬ (20:Int)<(r.r.vis.length:Int):=by omega
   by_cases h1:r.r.kind<0
   ·have HE:=Lib.hid (show (!ft)=true by rw [HF.out,decide_eq_true h1];rfl)
    go_wp2_with fail
    go_meet
    exact ⟨by rw [HE.out],rfl⟩
   ·by_cases h2:(m.types.length:Int)≤r.r.kind
    ·have HE:=Lib.hid (show (!ft)=true by rw [HF.out,decide_eq_true h2];simp)
     go_wp2_with fail
     go_meet
     exact ⟨by rw [HE.out],rfl⟩
    ·by_cases h3:r.r.start<0
     ·have HE:=Lib.hid (show (!ft)=true by rw [HF.out,decide_eq_true h3];simp)
      go_wp2_with fail
      go_meet
      exact ⟨by rw [HE.out],rfl⟩
     ·by_cases h4:4096<r.r.start
      ·have HE:=Lib.hid (show (!ft)=true by rw [HF.out,decide_eq_true h4];simp)
       go_wp2_with fail
       go_meet
       exact ⟨by rw [HE.out],rfl⟩
      ·have HE:=Lib.hid (show (!ft)=false by rw [HF.out,decide_eq_false h1,decide_eq_false h2,decide_eq_false h3,decide_eq_false h4,decide_eq_false (show ¬ 20<r.r.vis.length by omega)];rfl)
       go_wp2_with fail
       go_meet
       exact ⟨by rw [HE.out],rfl⟩
 case rest =>
  obtain ⟨rfl,hwx⟩:=hcut
  obtain rfl:=hwx.symm
  cases hf:fitR m r.r with
  |false =>
   have HF:=Lib.hid (fitR_no hf)
   clear hf
   have HS:=Lib.hid (row_set (tripR tripZ) HK3.out HB.out HG.out)
   go_wp2_with (refine wpList_store_row rfl 84 _ _ rfl g3 (tripR tripZ) rfl rfl 84 _ HK3.out (by kernel_rfl) rfl (by kernel_rfl) ?_)
   refine bodyPost_ret (res_row rfl (ld_trip HS.out.1) rfl rfl) rfl ?_
   exact PlanE.no HF.out HS.out.2
  |true =>
   obtain ⟨f1,f2,f3,f4,f5⟩:=fitR_yes hf
   clear hf
   obtain ⟨kd,hkd⟩:∃ kd:Nat,r.r.kind=(kd:Int):=⟨r.r.kind.toNat,by omega⟩
   have hkl:kd<m.types.length:=by omega
   have HKD:=Lib.hid hkd
   have HF12:=Lib.hid (And.intro f3 f4)
   obtain ⟨gt,ot,hA1,hgt,hx1⟩:=elemsP TypeM.cells_len (by decide) HM.out.types (by omega)
   have HX:=Lib.hid (fun j u h=>(HB.out.cell (p:=⟨gt,ot+kd*14+j,none⟩) hgt).trans (hx1 kd hkl j u h))
   have HTM:=Lib.hid (show ∃ t,m.types[kd]=t from ⟨_,rfl⟩)
   obtain ⟨t,ht⟩:=HTM.out
   rw [ht] at HX
   have HTT:=Lib.hid ht
   have hgt3:gt<w3.heap.size:=Nat.lt_of_lt_of_le hgt HB.out.size
   have hg13:=lt_heap HK1.out
   have hg23:=lt_heap HK2.out
   have x0:=HX.out 0 _ rfl
   have x1:=HX.out 1 _ rfl
   have x2:=HX.out 2 _ rfl
   have x3:=HX.out 3 _ rfl
   have x4:=HX.out 4 _ rfl
   have x5:=HX.out 5 _ rfl
   have x6:=HX.out 6 _ rfl
   have x7:=HX.out 7 _ rfl
   have x8:=HX.out 8 _ rfl
   have x9:=HX.out 9 _ rfl
   have x10:=HX.out 10 _ rfl
   have x11:=HX.out 11 _ rfl
   have x12:=HX.out 12 _ rfl
   have x13:=HX.out 13 _ rfl
   rw [Nat.add_zero] at x0
   have i0:=cellsX HK1.out 0 (.slice m.pA m.places.length m.pc) rfl
   have i1:=cellsX HK1.out 1 (.slice m.aA m.arcs.length m.ac) rfl
   have i2:=cellsX HK1.out 2 (.slice m.tA m.types.length m.tc) rfl
   have i3:=cellsX HK1.out 3 (.slice m.oA m.ords.length m.oc) rfl
   have i4:=cellsX HK1.out 4 (.slice m.xA m.apart.length m.xc) rfl
   have i5:=cellsX HK1.out 5 (.slice m.bA m.before.length m.bc) rfl
   have r0:=cellsX HK2.out 0 (.int .i64 r.r.kind) rfl
   have r1:=cellsX HK2.out 1 (.int .i64 r.r.start) rfl
   have r2:=cellsX HK2.out 2 (.slice r.A r.r.rests.length r.ca) rfl
   have r3:=cellsX HK2.out 3 (.slice r.C r.r.vis.length r.cc) rfl
   rw [hA1] at i2
   rw [hkd] at r0
   have hkl1:(kd:Int)<(m.types.length:Int):=by omega
   obtain ⟨q0,hq0⟩:∃ q:TripM,q=⟨m,t,r,none,0,[]⟩:=⟨_,rfl⟩
   have HQ0:=Lib.hid hq0
   clear hx1 ht HTM f1 f2 f3 f4 f5 hq0 x0 x1 x2 x3 x4 x5 x6 x7 x8 x9 x10 x11 x12 x13 i0 i1 i2 i3 i4 i5 r0 r1 r2 r3
   have HA1:=Lib.hid hA1
   clear hkd hA1
   go_upto_region 3 with fail
   go_cut [6] (fun s wx=>∃ gp:Nat,s=.pointer (some ⟨gp,0,none⟩)∧wx.heap[gp]? = some (.cells (tripR ⟨m,t,r,none,0,[]⟩) 84)∧Below w3.heap.size w3 wx∧w.heap.size≤gp∧g1≠gp∧g2≠gp∧g3≠gp)
   case first =>
    as_aux_lemma =>
     have hg33:=lt_heap HK3.out
     have HKP:=Lib.hid (show ∀ w' w2,(w'.heap[g1]? = some (.cells (insQ m) 30)∧w'.heap[g2]? = some (.cells (rouR r) 34)∧(∀ j u,t.cells[j]? = some u→w'.cell? ⟨gt,ot+kd*14+j,none⟩=some u)∧Below w3.heap.size w3 w')→Below w'.heap.size w' w2→(w2.heap[g1]? = some (.cells (insQ m) 30)∧w2.heap[g2]? = some (.cells (rouR r) 34)∧(∀ j u,t.cells[j]? = some u→w2.cell? ⟨gt,ot+kd*14+j,none⟩=some u)∧Below w3.heap.size w3 w2) from fun w' w2 ⟨h0,h1,h2,h3⟩ hb=>⟨row_keep h0 hb,row_keep h1 hb,fun j u h=>cell_held h3 hb hgt3 (h2 j u h),below_lift h3 hb⟩)
     have hS0:(fun w'=>w'.heap[g1]? = some (.cells (insQ m) 30)∧w'.heap[g2]? = some (.cells (rouR r) 34)∧(∀ j u,t.cells[j]? = some u→w'.cell? ⟨gt,ot+kd*14+j,none⟩=some u)∧Below w3.heap.size w3 w') w3.drew:=⟨HK1.out,HK2.out,HX.out,(Below.refl _ w3).drew⟩
     refine wp_region_held_drew (S:=fun w'=>w'.heap[g1]? = some (.cells (insQ m) 30)∧w'.heap[g2]? = some (.cells (rouR r) 34)∧(∀ j u,t.cells[j]? = some u→w'.cell? ⟨gt,ot+kd*14+j,none⟩=some u)∧Below w3.heap.size w3 w') (by kernel_rfl) hS0 (fun hHeld=>?_)
     refine wpAnyH_take (i:=0) (v:=.agg (insQ m)) (by simp only [List.getElem?_toArray,List.getElem?_cons_zero];rfl) (by kernel_rfl) (by kernel_rfl) (by kernel_rfl) (by exact fun _ _ _ h=>h) (Or.inl ⟨by rfl,?_⟩) (by assumption) ?_
     ·(intro w hSw;exact yl_row 30 _ rfl g1 rfl 30 _ _ Tryz.underlying30 rfl (by kernel_rfl) (hSw.1))
     (try simp only [Act.put,List.setIfInBounds_toArray,List.set_cons_zero,List.set_cons_succ])
     refine wpAnyH_take (i:=1) (v:=?_) (by simp only [List.getElem?_toArray,List.getElem?_cons_succ,List.getElem?_cons_zero];rfl) (by kernel_rfl) (by kernel_rfl) (by kernel_rfl) (by exact fun _ _ _ h=>h) (Or.inl ⟨by rfl,?_⟩) (by assumption) ?_
     rotate_left
     ·(intro w hSw;(try dsimp only at hSw);go_simp;(try with_reducible rfl))
     (try simp only [Act.put,List.setIfInBounds_toArray,List.set_cons_zero,List.set_cons_succ])
     refine wpAnyH_take (i:=2) (v:=?_) (by simp only [List.getElem?_toArray,List.getElem?_cons_succ,List.getElem?_cons_zero];rfl) (by kernel_rfl) (by kernel_rfl) (by kernel_rfl) (by exact fun _ _ _ h=>h) (Or.inl ⟨by rfl,?_⟩) (by assumption) ?_
     rotate_left
     ·(intro w hSw;have q:=cellsX hSw.1 2 (.slice m.tA m.types.length m.tc) rfl;rw [HA1.out] at q;go_simp;(try with_reducible rfl))
     (try simp only [Act.put,List.setIfInBounds_toArray,List.set_cons_zero,List.set_cons_succ])
     refine wpAnyH_take (i:=3) (v:=?_) (by simp only [List.getElem?_toArray,List.getElem?_cons_succ,List.getElem?_cons_zero];rfl) (by kernel_rfl) (by kernel_rfl) (by kernel_rfl) (by exact fun _ _ _ h=>h) (Or.inl ⟨by rfl,?_⟩) (by assumption) ?_
     rotate_left
     ·(intro w hSw;(try dsimp only at hSw);go_simp;(try with_reducible rfl))
     (try simp only [Act.put,List.setIfInBounds_toArray,List.set_cons_zero,List.set_cons_succ])
     refine wpAnyH_take (i:=4) (v:=?_) (by simp only [List.getElem?_toArray,List.getElem?_cons_succ,List.getElem?_cons_zero];rfl) (by kernel_rfl) (by kernel_rfl) (by kernel_rfl) (by exact fun _ _ _ h=>h) (Or.inl ⟨by rfl,?_⟩) (by assumption) ?_
     rotate_left
     ·(intro w hSw;have q:=cellsX hSw.2.1 0 (.int .i64 r.r.kind) rfl;rw [HKD.out] at q;go_simp;(try with_reducible rfl))
     (try simp only [Act.put,List.setIfInBounds_toArray,List.set_cons_zero,List.set_cons_succ])
     refine wpAnyH_take (i:=5) (v:=?_) (by simp only [List.getElem?_toArray,List.getElem?_cons_succ,List.getElem?_cons_zero];rfl) (by kernel_rfl) (by kernel_rfl) (by kernel_rfl) (by exact fun _ _ _ h=>h) (Or.inl ⟨by rfl,?_⟩) (by assumption) ?_
     rotate_left
     ·(intro w hSw;(try dsimp only at hSw);go_simp;(try with_reducible rfl))
     (try simp only [Act.put,List.setIfInBounds_toArray,List.set_cons_zero,List.set_cons_succ])
     refine wpAnyH_take (i:=6) (v:=.agg ((t.cells).toArray)) (by simp only [List.getElem?_toArray,List.getElem?_cons_succ,List.getElem?_cons_zero];rfl) (by kernel_rfl) (by kernel_rfl) (by kernel_rfl) (by exact fun _ _ _ h=>h) (Or.inl ⟨by rfl,?_⟩) (by assumption) ?_
     ·(intro w hSw;exact yl_cells 81 _ rfl gt (ot+kd*14) rfl (t.cells) _ Tryz.underlying81 rfl (by kernel_rfl) (hSw.2.2.1))
     (try simp only [Act.put,List.setIfInBounds_toArray,List.set_cons_zero,List.set_cons_succ])
     refine wpAnyH_take (i:=7) (v:=.agg (rouR r)) (by simp only [List.getElem?_toArray,List.getElem?_cons_succ,List.getElem?_cons_zero];rfl) (by kernel_rfl) (by kernel_rfl) (by kernel_rfl) (by exact fun _ _ _ h=>h) (Or.inl ⟨by rfl,?_⟩) (by assumption) ?_
     ·(intro w hSw;exact yl_row 34 _ rfl g2 rfl 34 _ _ Tryz.underlying34 rfl (by kernel_rfl) (hSw.2.1))
     (try simp only [Act.put,List.setIfInBounds_toArray,List.set_cons_zero,List.set_cons_succ])
     refine wpAnyH_take (i:=8) (v:=.agg (tripR ⟨m,t,r,none,0,[]⟩)) (by simp only [List.getElem?_toArray,List.getElem?_cons_succ,List.getElem?_cons_zero];rfl) (by kernel_rfl) (by kernel_rfl) (by kernel_rfl) (by exact fun _ _ _ h=>h) (Or.inl ⟨by rfl,?_⟩) (by assumption) ?_
     ·(intro w hSw;exact yl_build 84 _ rfl (tripR ⟨m,t,r,none,0,[]⟩) (by simp only [List.map_toArray,List.map_cons,List.map_nil];exact built_tripQ m t r))
     (try simp only [Act.put,List.setIfInBounds_toArray,List.set_cons_zero,List.set_cons_succ])
     refine wpAnyH_ready (rs:=[9]) (by kernel_rfl) (by simp) (AllReadyH.cons (by simp only [List.getElem?_toArray,List.getElem?_cons_succ,List.getElem?_cons_zero];rfl) (fun K hK=>?_) AllReadyH.nil)
     refine wanted_go (by rfl) ?_
     refine wp_alloc_new 84 rfl (tripR tripZ) (by kernel_rfl) ?_
     refine hK.out _ _ (HKP.out _ _ hHeld (new_at _ _).1) (fun hHeld=>?_)
     clear hK K
     (try simp only [Act.put,List.setIfInBounds_toArray,List.set_cons_zero,List.set_cons_succ])
     refine wpAnyH_ready (rs:=[10]) (by kernel_rfl) (by simp) (AllReadyH.cons (by simp only [List.getElem?_toArray,List.getElem?_cons_succ,List.getElem?_cons_zero];rfl) (fun K hK=>?_) AllReadyH.nil)
     refine wanted_go (by rfl) ?_
     refine wp_store_row 84 _ _ rfl w3.heap.size (tripR ⟨m,t,r,none,0,[]⟩) rfl rfl 84 _ (new_at _ _).2 (by kernel_rfl) rfl (by kernel_rfl) ?_
     refine hK.out _ _ (HKP.out _ _ hS0 (new_set _ _ _ _).2) (fun hHeld=>?_)
     clear hK K
     refine wpAnyH_done (by kernel_rfl) ?_ _
     go_wp2_with fail
     go_meet
     exact ⟨w3.heap.size,rfl,(new_set w3.drew _ _ _).1,below_lift (Below.refl _ w3).drew (new_set w3.drew _ _ _).2,HB.out.size,by omega,by omega,by omega⟩
   case rest =>
    obtain ⟨gp,rfl,hgp,hbx,hwg,hne1,hne2,hne3⟩:=hcut
    have HP:=Lib.hid hgp
    have HBX:=Lib.hid (below_lift HB.out hbx)
    have HR1:=Lib.hid (row_keep HK1.out hbx)
    have HR2:=Lib.hid (row_keep HK2.out hbx)
    have HR3:=Lib.hid (row_keep HK3.out hbx)
    have HWG:=Lib.hid hwg
    have HNE:=Lib.hid (And.intro hne1 hne3)
    have hr3:=cellsX HR2.out 3 (.slice r.C r.r.vis.length r.cc) rfl
    have hvc:=HR.out.vl
    unfold maxLen at hvc
    clear hgp hbx hwg hne1 hne2 hne3 HB HK1 HK2 HK3 HX
    go_wp2_with fail
    clear hr3 HR2
    go_loopw [5,10,51] (fun _ _ j wr=>∃ (k:Nat) (A:Option Addr) (c:Nat) (l:List StopV),k≤r.r.vis.length∧j=.int .i64 k∧l.length=k∧stopsOf m.v (r.r.vis.take k)=some l∧OwnR wr w.heap.size 134 4 A l.length c (l.flatMap stopC)∧wr.heap[gp]? = some (.cells (tripR ⟨m,t,r,A,c,l⟩) 84)∧wr.heap[g1]? = some (.cells (insQ m) 30)∧wr.heap[g3]? = some (.cells (tripR tripZ) 84)∧Below w.heap.size w wr) (fun _ _ j _=>r.r.vis.length - (intOf j).toNat)
    case atStart=>exact ⟨0,none,0,[],Nat.zero_le _,rfl,rfl,by simp [stopsOf],OwnR.nil _ _ _ _,HP.out,HR1.out,HR3.out,HBX.out⟩
    case round =>
     clear HP HR1 HR3 HBX
     obtain ⟨k,A,c,l,hk,rfl,hlk,hst,hown,hrp,hr1,hr3,hbel⟩:=hrel
     have HLK:=Lib.hid hlk
     have HST:=Lib.hid hst
     have HO2:=Lib.hid hown
     have HP:=Lib.hid hrp
     have HR1:=Lib.hid hr1
     have HR3:=Lib.hid hr3
     have HBX:=Lib.hid hbel
     have hll:l.length≤8:=by omega
     clear hlk hst hown hrp hr1 hr3 hbel
     by_cases hlt:k<r.r.vis.length
     ·have hlt1:(k:Int)<(r.r.vis.length:Int):=by omega
      obtain ⟨gv,ov,hA2,hgv,hx2⟩:=elemsP visC_len (by decide) HR.out.vis (by omega)
      have x0:=(HBX.out.cell (p:=⟨gv,ov+k*2+0,none⟩) hgv).trans (hx2 k hlt 0 _ rfl)
      have x1:=(HBX.out.cell (p:=⟨gv,ov+k*2+1,none⟩) hgv).trans (hx2 k hlt 1 _ rfl)
      have hvf:=HR.out.visF _ (List.getElem_mem hlt)
      have HVV:=Lib.hid (show ∃ v,r.r.vis[k]=v from ⟨_,rfl⟩)
      obtain ⟨v,hv⟩:=HVV.out
      rw [hv] at x0 x1 hvf
      rw [Nat.add_zero] at x0
      have HV:=Lib.hid hv
      have HTK:=Lib.hid (show r.r.vis.take (k+1)=r.r.vis.take k ++ [v] by rw [List.take_succ_eq_append_getElem hlt,hv])
      obtain ⟨n4,p4⟩:=new_at wr (.cells #[.int .i64 v.1,.bool v.2] 92)
      rw [hA2]
      clear hx2 hv HVV hA2
      go_upto_region 7 with fail
      clear x0 x1
      generalize wr.alloc (.cells #[.int .i64 v.1,.bool v.2] 92)=w4 at *
      have HB4:=Lib.hid (below_lift HBX.out n4)
      have HO4:=Lib.hid (HO2.out.below n4)
      have HP4:=Lib.hid (row_keep HP.out n4)
      have HR14:=Lib.hid (row_keep HR1.out n4)
      have HR34:=Lib.hid (row_keep HR3.out n4)
      obtain ⟨c0,c1⟩:=cells2 p4
      have i3:=cellsX HR14.out 3 (.slice m.oA m.ords.length m.oc) rfl
      have HSE:=Lib.hid (ostop_any m v w4 (HM.out.below HB4.out).ords HM.out.ol hno hvf)
      clear n4 p4 HBX HO2 HP HR1 HR3
      go_wp2_with fail
      refine HSE.out.mono ?_
      rintro e w5 ⟨he,hb5⟩
      clear c0 c1 i3 HSE
      have HB5:=Lib.hid (below_lift HB4.out hb5)
      have HO5:=Lib.hid (HO4.out.below hb5)
      have HP5:=Lib.hid (row_keep HP4.out hb5)
      have HR15:=Lib.hid (row_keep HR14.out hb5)
      have HR35:=Lib.hid (row_keep HR34.out hb5)
      clear hb5 HB4 HO4 HP4 HR14 HR34
      cases hso:stopOf m.v v with
      |none =>
       rw [hso] at he
       obtain ⟨kk,hk0,rfl⟩:=he
       have hkb:(kk != 0)=true:=by simpa using hk0
       have HNO:=Lib.hid (show stopsOf m.v r.r.vis=none from stopsOf_none m.v _ k hlt (by rw [HV.out];exact hso))
       clear hso hk0
       obtain ⟨n6,p6⟩:=new_at w5 (.cells (stopR stop0) 134)
       have HB6:=Lib.hid (below_lift HB5.out n6)
       have HR36:=Lib.hid (row_keep HR35.out n6)
       clear n6 p6
       go_upto_region 8 with fail
       rw [show w5.alloc (.cells #[.int .i64 0,.int .i64 0,.int .i64 0,.int .i64 0] 134)=w5.alloc (.cells (stopR stop0) 134) from rfl]
       generalize w5.alloc (.cells (stopR stop0) 134)=w6 at *
       have HS:=Lib.hid (row_set (tripR tripZ) HR36.out HB6.out HG.out)
       go_wp2_with (refine wpList_store_row rfl 84 _ _ rfl g3 (tripR tripZ) rfl rfl 84 _ HR36.out (by kernel_rfl) rfl (by kernel_rfl) ?_)
       refine bodyPost_ret (res_row rfl (ld_trip HS.out.1) rfl rfl) rfl ?_
       exact PlanE.no (fun p hp=>by have:=hp.stops;rw [HNO.out] at this;cases this) HS.out.2
      |some s =>
       rw [hso] at he
       subst he
       have hpl:=(stopOf_ok HO.out hso).2
       have hlp:¬ s.place<0:=by omega
       have HST2:=Lib.hid (show stopsOf m.v (r.r.vis.take (k+1))=some (l ++ [s]) by rw [HTK.out];exact stopsOf_snoc m.v _ v l s HST.out hso)
       clear hso hpl
       obtain ⟨n6,p6⟩:=new_at w5 (.cells (stopR s) 134)
       have HB6:=Lib.hid (below_lift HB5.out n6)
       have HO6:=Lib.hid (HO5.out.below n6)
       have HP6:=Lib.hid (row_keep HP5.out n6)
       have HR16:=Lib.hid (row_keep HR15.out n6)
       have HR36:=Lib.hid (row_keep HR35.out n6)
       clear n6 HB5 HO5 HP5 HR15 HR35
       go_upto_region 8 with fail
       rw [show w5.alloc (.cells #[.int .i64 s.place,.int .i64 s.opn,.int .i64 s.cls,.int .i64 s.serv] 134)=w5.alloc (.cells (stopR s) 134) from rfl]
       generalize w5.alloc (.cells (stopR s) 134)=w6 at *
       obtain ⟨s0,s1,s2,s3⟩:=cells4 p6
       have q24:=cellsX HP6.out 24 (.slice A l.length c) rfl
       go_upto_region 10 with fail
       clear p6
       go_wp2_with (at_builtin;refine wp_appk el_stp rfl _ _ rfl w.heap.size A l.length c (l.flatMap stopC) w6 #[.int .i64 s.place,.int .i64 s.opn,.int .i64 s.cls,.int .i64 s.serv] rfl HO6.out rfl rfl (by intro u hu;simp at hu;rcases hu with rfl | rfl | rfl | rfl <;> rfl) (by unfold maxLen;omega) (by omega) HB6.out.size ?_;intro A' c' w7 hown7 hb7 hkp7;have hrp7:=hkp7.row HP6.out (HO6.out.far HP6.out stp_trip);have y24:=cellsX hrp7 24 (.slice A l.length c) rfl;have z24:=frz hrp7 24)
       have hk1:(k:Int)+1=((k+1:Nat):Int):=by omega
       have HK7:=Lib.hid ((KpB.refl gp w7).store 24 (.slice A' (l.length+1) c'))
       have hlen:(l ++ [s]).length=l.length+1:=by simp
       go_roundw
       case rel =>
        refine ⟨k+1,A',c',l ++ [s],by omega,by go_num,by rw [hlen,HLK.out],HST2.out,?_,?_,?_,?_,?_⟩
        ·rw [hlen,← flat_snoc]
         exact OwnR.keptB hown7 HK7.out hrp7 stp_trip
        ·rw [heap_put hrp7]
         show some (Obj.cells _ _ _)=some (Obj.cells (tripR ⟨m,t,r,A',c',l ++ [s]⟩) _ _)
         unfold tripR
         rw [hlen]
         rfl
        ·exact HK7.out.row (hkp7.row HR16.out (HO6.out.far HR16.out stp_ins)) HNE.out.1
        ·exact HK7.out.row (hkp7.row HR36.out (HO6.out.far HR36.out stp_trip)) HNE.out.2
        ·exact (HB6.out.trans hb7).setCell HWG.out _
       case measure=>simp [intOf];omega
     ·have hlt1:¬ (k:Int)<(r.r.vis.length:Int):=by omega
      have HKE:=Lib.hid (show k=r.r.vis.length by omega)
      have HS:=Lib.hid (row_set (tripR ⟨m,t,r,A,c,l⟩) HR3.out HBX.out HG.out)
      go_wp2_with (first | (refine wpList_load_row rfl 84 _ rfl gp rfl 84 _ _ _ HP.out Tryz.underlying84 rfl (by kernel_rfl) ?_) | (refine wpList_store_row rfl 84 _ _ rfl g3 (tripR ⟨m,t,r,A,c,l⟩) rfl rfl 84 _ HR3.out (by kernel_rfl) rfl (by kernel_rfl) ?_))
      refine bodyPost_ret (res_row rfl (ld_trip HS.out.1) rfl rfl) rfl ?_
      have hb:=HS.out.2
      refine PlanE.yes (q:=⟨m,t,r,A,c,l⟩) ⟨HM.out.below hb,(HM.out.typeE t (by rw [← HTT.out];exact List.getElem_mem hkl)).below hb,HR.out.below hb,?_,HO2.out.cap,⟨rfl,rfl,by rw [HKD.out];omega,?_,?_,HF12.out,by show r.r.vis.length≤20;omega⟩,HO.out⟩ rfl rfl hb
      ·intro hh
       exact (OwnR.keep HO2.out (w':=_) (fun b hb2=>setRow_other _ _ _ _ (fun e=>(HO2.out.not HR3.out stp_trip) (by rw [hb2,e])))).cells hh
      ·show (m.types.map (·.t))[r.r.kind.toNat]? = some t.t
       rw [HKD.out,Int.toNat_natCast,List.getElem?_map,List.getElem?_eq_getElem hkl,HTT.out];rfl
      ·have:=HST.out
       rw [HKE.out,List.take_length] at this
       exact this
end Go.Proofs.YtjcekdiocliddaaGreatDoor

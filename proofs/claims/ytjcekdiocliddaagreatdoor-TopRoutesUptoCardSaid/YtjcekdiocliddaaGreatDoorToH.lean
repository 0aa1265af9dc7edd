/- label.Extend. (Printed by wip/tk/mkToH.py.) -/
import Derived.Test.YtjcekdiocliddaaGreatDoorG88
import Derived.Laws.CopyOwn
namespace Go.Proofs.YtjcekdiocliddaaGreatDoor
open Lib (hid)
open Go.RowKit Num Txt Pf Tk
set_option maxHeartbeats 32000000
set_option maxRecDepth 100000
set_option linter.unusedVariables false
attribute [local go_sem] BS Bg Bt Bm Be Ba
theorem run_copy_wide {P:Program} (w:World) (dT sT ty elem:TypeId) (g dLen dCap:Nat) (A:Option Addr) (sLen sCap sz:Nat) (cur:Array Value) (t:TypeId) (cs:List Value)
  (hu:P.underlying dT=some (.slice elem)) (hs:(P.info? elem).map (·.size)=some sz) (hpos:0<sz) (hg:w.heap[g]? = some (.cells cur t (0,0))) (hn:sLen<=dLen) (hcs:cs.length=sLen*sz)
  (hsrc:Cs w A cs) (hfit:cs.length<=cur.size) (h1:∀ v ∈ cs,v.oneCell'=true) :
  ∃ w',(Builtin.copy_ #[dT,sT] ty #[.slice (some ⟨g,0,none⟩) dLen dCap,.slice A sLen sCap]).run P w=.ok (goInt sLen) w'/\w'.heap[g]? = some (.cells (cs ++ cur.toList.drop cs.length).toArray t (0,0))/\Below g w w':=by
 have hmin:Nat.min sLen dLen=sLen:=Nat.min_eq_left hn
 cases hq:P.info? elem with
 |none=>simp [hq] at hs
 |some i =>
  have hi:i.size=sz:=by simpa [hq] using hs
  by_cases h0:cs.length=0
  ·have hsl:sLen=0:=by
    rcases Nat.eq_zero_or_pos sLen with h | h
    ·exact h
    ·have:=Nat.mul_pos h hpos;omega
   subst hsl;obtain rfl:cs=[]:=List.eq_nil_of_length_eq_zero h0;have hl:∀ (x:Addr),(loadCells x 0).run P w=.ok #[] w:=fun x=>by simpa using run_loadCells_list (P:=P) w x [] (by simp)
   refine ⟨w,?_,by simpa using hg,Below.refl _ _⟩;cases A <;> simp [Builtin.copy_,run_underlying hu,Builtin.lenOf,Builtin.firstCells,sizeOf,typeInfo,hq,hmin,storeCells,hl]
  ·obtain ⟨b,o,rfl,hb,hx⟩:=hsrc (by omega)
   have hl:=run_loadCells_list (P:=P) w ⟨b,o,none⟩ cs (fun j v hj=>by rw [Go.WideShapes.add_plain];exact hx j v hj);have hst:=run_storeCells_at P g 0 t cs 0 cur w hg (by simpa using hfit) h1;rw [hcs] at hl;refine ⟨_,by simp [Builtin.copy_,run_underlying hu,Builtin.lenOf,Builtin.firstCells,sizeOf,typeInfo,hq,hi,hmin,hl,hst];rfl,?_,below_setRow (Below.refl _ _) (Nat.le_refl _) _⟩
   rw [setRow_heap w g _ _ t _ hg]
theorem clr_bitN:∀ s,s<8->∀ o,o<3->bits BinOp.andNot IntKind.i64 ((s:Nat):Int) (wrap64 (2 ^ o))=((clrN s o:Nat):Int):=by decide +kernel
theorem dropHas_in {m:IM} {k:Nat} (h:k<m.ords.length):dH m.v (k:Int)=decide (0<=m.ords[k].o.drop.place):=by
 unfold dH;rw [show OA m.v (k:Int)=some m.ords[k].o from On (m:=m) (i:=(k:Int)) (by omega) (by simpa using h)]
theorem cells_of (M:Lb) {k pl dv dr mi:Int} {n L dn op:Nat} (h1:M.l.kind=k) (h2:M.l.vis.length=n) (h3:M.l.place=pl) (h4:M.l.time=dv) (h5:M.l.driven=dr) (h6:M.l.miles=mi) (h7:M.l.load.length=L) (h8:M.l.dn=dn) (h9:M.l.op=op) :
  M.cells.toArray=#[.int .i64 k,.slice M.A n M.ca,.int .i64 pl,.int .i64 dv,.int .i64 dr,.int .i64 mi,.slice M.B L M.cb,.int .i64 (dn:Int),.int .i64 (op:Int)]:=by
 subst h1 h2 h3 h4 h5 h6 h7 h8 h9;rfl
theorem app_row {w w':World} {A:Option Addr} {g:Nat} {cs:Array Value} {e:TypeId} (hk:KA A w w') (hg:w.heap[g]? = some (.cells cs e)) (hf:∀ off sp,A≠some ⟨g,off,sp⟩) (i:Nat) (v:Value) (hv:cs[i]? = some v):w'.heap[g]? = some (.cells cs e)/\w'.cell? ⟨g,i,none⟩=some v/\w'.frozen? ⟨g,i,none⟩=false :=
 ⟨hk.row hg hf,CX (hk.row hg hf) i v hv,fz (hk.row hg hf) i⟩
theorem pvis_size:(Tryz.prog.info? 92).map (·.size)=some 2:=by kernel_rfl
theorem vis_make (n:Nat) (hn:n<=1000) (w:World) :
  (Instr.makeSlice 32 (.int .i64 (n:Int)) (.int .i64 ((n+1:Nat):Int))).run Tryz.prog w=.ok (.slice (some ⟨w.heap.size,0,none⟩) n (n+1)) (w.alloc (.cells (madeCells #[.int .i64 0,.bool false] ((n+1)*2)) 92)):=by
 obtain ⟨i,hi,hz,hs,hb⟩:=info_parts pvis_info;have:=rN (P:=Tryz.prog) 32 92 i (.agg #[.int .i64 0,.bool false]) Tryz.underlying32 hi hz .i64 .i64 n (n+1) (by omega) (by rw [hb];omega) (by omega) w;rw [hs] at this;exact this
theorem lextend_any (m:IM) (k:Nat) (lb:Lb) (v:Int × Bool) (w:World) (hm:IA w m) (hok:IK m.v) (hml:m.ords.length<=3) (hT:Tb w) (hk:k<m.types.length) (hlb:Bj m.v m.types[k].t (k:Int) lb.l) (hat:Ah w lb) (hvl:lb.l.vis.length<=7) (hv:0<=v.1/\v.1<(m.ords.length:Int)) :
  Calls Tryz.prog 93 #[iA m,.agg lb.cells.toArray,.agg #[.int .i64 v.1,.bool v.2]] w (LE (eL m.v m.types[k].t lb.l v) w):=by
 obtain ⟨v1,v2⟩:=v;obtain ⟨o,rfl⟩:∃ o:Nat,v1=(o:Int):=⟨v1.toNat,by simp only at hv;omega⟩
 simp only at hv;simp only;have ho:o<m.ords.length:=by omega
 obtain ⟨k1,k2,k3,kb⟩:=Av w (.cells (iQ m) 30) (.cells lb.cells.toArray 65) (.cells #[.int .i64 (o:Int),.bool v2] 92);have HB:=hid kb;have HK1:=hid k1;have HK2:=hid k2;have HK3:=hid k3;have HM:=hid (fun w' (hb:Below w.heap.size w w')=>hm.below hb);have HT:=hid (fun w' (hb:Below w.heap.size w w')=>hT.below hb)
 have HAT:=hid (fun w' (hb:Below w.heap.size w w')=>hat.below hb);have HOK:=hid hok;have HTYA:=hid (fun w' (hb:Below w.heap.size w w')=>(hm.below hb).typeE _ (List.getElem_mem hk));have HLB:=hid hlb;have htl:=hm.tl;have hkd:=hid hlb.kind;have HTT:=hid (hok.types _ (Ti (List.getElem_mem hk)));have HTX:=hid (hok.typesX _ (Ti (List.getElem_mem hk)))
 have hk2:(k:Int)<(m.types.length:Int):=by omega
 have hk0:¬ (k:Int)<0:=by omega
 obtain ⟨gt,ot,hTA,hgt,htc⟩:=eP Ty.cells_len (by decide) (hm.types.below kb) (by omega);have HTC:=hid (fun j v h=>htc k hk j v h);have HGT:=hid hgt;have HTA:=hid hTA;have HST:=hid (fun w' (hb:Below w.heap.size w w')=>oy m ((o:Int),v2) w' (hm.ords.below hb) hm.ol hml (show fits (o:Int) by unfold fits;omega))
 have HEX:=hid (show eL m.v m.types[k].t lb.l ((o:Int),v2)=eL m.v m.types[k].t lb.l ((o:Int),v2) from rfl);unfold maxLen at htl;clear hm hok hT hat hlb k1 k2 k3 kb htc hgt hTA;go_enter Tryz.func93,Tryz.ntmps93;(try simp only [Bm]);go_upto_region 1 with fail;rw [iq]
 generalize ((w.alloc (.cells (iQ m) 30)).alloc (.cells lb.cells.toArray 65)).alloc (.cells #[.int .i64 (o:Int),.bool v2] 92)=wa at *;obtain ⟨h1,hh1⟩:∃ h1,h1=w.heap.size:=⟨_,rfl⟩
 obtain ⟨h2,hh2⟩:∃ h2,h2=w.heap.size+1:=⟨_,rfl⟩
 obtain ⟨h3,hh3⟩:∃ h3,h3=w.heap.size+1+1:=⟨_,rfl⟩
 rw [<- hh3] at HK3;rw [<- hh2] at HK2;rw [<- hh1] at HK1;rw [<- hh3,<- hh2,<- hh1];clear hh1 hh2 hh3;have r0:=CX HK2.out 0 (.int .i64 lb.l.kind) rfl;rw [hkd.out] at r0;have q2:=CX HK1.out 2 (.slice m.tA m.types.length m.tc) rfl;have q3:=CX HK1.out 3 (.slice m.oA m.ords.length m.oc) rfl;rw [HTA.out] at q2;go_upto_region 3 with fail;go_wp2_with (refine lr HK3.out Tryz.underlying92 ?_)
 refine (HST.out wa HB.out).mono ?_;rintro e w1 he;clear r0 q2 q3
 cases hs:sO m.v ((o:Int),v2) with
 |none =>
  unfold SE at he;rw [hs] at he;obtain ⟨⟨z,hz,rfl⟩,hb1⟩:=he;have HE:=hid (show eL m.v m.types[k].t lb.l ((o:Int),v2)=[] by unfold eL;rw [hs]);have hzb:=ib hz;have hzb2:(z != 0)=true:=by simpa using hz
  have HB1:=hid (bL HB.out hb1);obtain ⟨n2,_⟩:=Na w1 (.cells (SR S0) 134);have HB2:=hid (bL HB1.out n2);clear hz hb1 hs n2;go_upto_region 4 with fail;rw [show w1.alloc (.cells #[.int .i64 0,.int .i64 0,.int .i64 0,.int .i64 0] 134)=w1.alloc (.cells (SR S0) 134) from rfl];generalize w1.alloc (.cells (SR S0) 134)=w2 at *;go_wp2_with fail;go_ret
  exact LE.none HE.out HB2.out
 |some st =>
  unfold SE at he;rw [hs] at he;obtain ⟨rfl,hb1⟩:=he;have HB1:=hid (bL HB.out hb1);obtain ⟨n2,p2⟩:=Na w1 (.cells (SR st) 134);have HB2:=hid (bL HB1.out n2);have HBA2:=hid (bL hb1 n2);have HP2:=hid p2;have HSTO:=hid (so HOK.out hs);have HSTOP:=hid hs;clear hb1 hs n2 p2;go_upto_region 4 with fail
  rw [show w1.alloc (.cells #[.int .i64 st.place,.int .i64 st.opn,.int .i64 st.cls,.int .i64 st.serv] 134)=w1.alloc (.cells (SR st) 134) from rfl];obtain ⟨h7,hh7⟩:∃ h7,h7=w1.heap.size:=⟨_,rfl⟩
  rw [<- hh7] at HP2;rw [<- hh7];clear hh7;generalize w1.alloc (.cells (SR st) 134)=w2 at *;have HK12:=hid (rK HK1.out HBA2.out);have HK22:=hid (rK HK2.out HBA2.out);have HK32:=hid (rK HK3.out HBA2.out);have HTC2:=hid (fun j v h=>(HBA2.out.cell (p:=⟨gt,ot+k*14+j,none⟩) HGT.out).trans (HTC.out j v h));have HGT2:=hid (Nat.lt_of_lt_of_le HGT.out HBA2.out.size)
  clear HK1 HK2 HK3 HTC HGT HBA2 HB1 HB;have qa0:=CX HK12.out 0 (.slice m.pA m.places.length m.pc) rfl;have qa1:=CX HK12.out 1 (.slice m.aA m.arcs.length m.ac) rfl;have qa2:=CX HK12.out 2 (.slice m.tA m.types.length m.tc) rfl;have qa3:=CX HK12.out 3 (.slice m.oA m.ords.length m.oc) rfl;have qa4:=CX HK12.out 4 (.slice m.xA m.apart.length m.xc) rfl
  have qa5:=CX HK12.out 5 (.slice m.bA m.before.length m.bc) rfl;have qb0:=CX HK22.out 0 (.int .i64 lb.l.kind) rfl;have qb1:=CX HK22.out 1 (.slice lb.A lb.l.vis.length lb.ca) rfl;have qb2:=CX HK22.out 2 (.int .i64 lb.l.place) rfl;have qb3:=CX HK22.out 3 (.int .i64 lb.l.time) rfl;have qb4:=CX HK22.out 4 (.int .i64 lb.l.driven) rfl
  have qb5:=CX HK22.out 5 (.int .i64 lb.l.miles) rfl;have qb6:=CX HK22.out 6 (.slice lb.B lb.l.load.length lb.cb) rfl;have qb7:=CX HK22.out 7 (.int .i64 (lb.l.dn:Int)) rfl;have qb8:=CX HK22.out 8 (.int .i64 (lb.l.op:Int)) rfl;have qc0:=CX HK32.out 0 (.int .i64 (o:Int)) rfl;have qc1:=CX HK32.out 1 (.bool v2) rfl
  have HRD:=hid (lready_any m k lb ((o:Int),v2) w2 (HM.out w2 HB2.out) HOK.out hml hk hkd.out HLB.out.dn HLB.out.op hv);go_wp2_with fail;refine HRD.out.mono ?_;rintro e w3 ⟨rfl,hb3⟩;clear HRD;have HB3:=hid (bL HB2.out hb3);have HK13:=hid (rK HK12.out hb3);have HK23:=hid (rK HK22.out hb3);have HK33:=hid (rK HK32.out hb3)
  have HP3:=hid (rK HP2.out hb3);have HTC3:=hid (fun j v h=>(hb3.cell (p:=⟨gt,ot+k*14+j,none⟩) HGT2.out).trans (HTC2.out j v h));have HGT3:=hid (Nat.lt_of_lt_of_le HGT2.out hb3.size);clear hb3 HK12 HK22 HK32 HP2 HTC2 HGT2 HB2 qa0 qa1 qa2 qa3 qa4 qa5 qb0 qb1 qb2 qb3 qb4 qb5 qb6 qb7 qb8 qc0 qc1
  cases hrd:Rb m.v m.types[k].t lb.l.dn lb.l.op ((o:Int),v2) with
  |false =>
   have HE:=hid (show eL m.v m.types[k].t lb.l ((o:Int),v2)=[] by unfold eL;rw [HSTOP.out];simp only;rw [hrd];rfl);clear hrd;go_wp2_with fail;go_ret;exact LE.none HE.out HB3.out
  |true =>
   have HRDY:=hid hrd;clear hrd;obtain ⟨ty,hty⟩:∃ ty,ty=m.types[k]:=⟨_,rfl⟩
   rw [<- hty] at HTC3 HTT HTX HLB HRDY HTYA;have HTY:=hid hty;clear hty;have r0:=CX HK23.out 0 (.int .i64 lb.l.kind) rfl;rw [hkd.out] at r0;have q2:=CX HK13.out 2 (.slice m.tA m.types.length m.tc) rfl;rw [HTA.out] at q2
   obtain ⟨_,pw4⟩:=Na w3 (.cells #[.string (B []),.int .i64 0,.int .i64 0,.int .i64 0,.slice none 0 0,.int .i64 0,.int .i64 0,.int .i64 0,.int .i64 0,.int .i64 0,.int .i64 0,.int .i64 0,.int .i64 0,.int .i64 0] 81)
   obtain ⟨q5,b5⟩:=nS w3 #[.string (B []),.int .i64 0,.int .i64 0,.int .i64 0,.slice none 0 0,.int .i64 0,.int .i64 0,.int .i64 0,.int .i64 0,.int .i64 0,.int .i64 0,.int .i64 0,.int .i64 0,.int .i64 0] ty.cells.toArray 81
   go_upto_region 7 with (first | (refine wL rfl 81 _ rfl gt (ot+k*14) rfl ty.cells _ HTC3.out Tryz.underlying81 rfl (by kernel_rfl) ?_) | (refine sw ty.cells.toArray pw4 ?_))
   (try simp only [Act.put]);generalize (w3.alloc (.cells #[.string (B []),.int .i64 0,.int .i64 0,.int .i64 0,.slice none 0 0,.int .i64 0,.int .i64 0,.int .i64 0,.int .i64 0,.int .i64 0,.int .i64 0,.int .i64 0,.int .i64 0,.int .i64 0] 81)).setRow w3.heap.size ty.cells.toArray=w4 at *;have HB4:=hid (bL HB3.out b5);have HK14:=hid (rK HK13.out b5)
   have HK24:=hid (rK HK23.out b5);have HK34:=hid (rK HK33.out b5);have HP4:=hid (rK HP3.out b5);have HQ4:=hid q5;obtain ⟨h9,hh9⟩:∃ h9,h9=w3.heap.size:=⟨_,rfl⟩
   rw [<- hh9] at HQ4;rw [<- hh9];clear hh9 pw4 q5 b5 r0 q2 HK13 HK23 HK33 HP3 HTC3 HGT3 HB3;have r2:=CX HK24.out 2 (.int .i64 lb.l.place) rfl;have r3:=CX HK24.out 3 (.int .i64 lb.l.time) rfl;have t6:=CX HQ4.out 6 (.int .i64 ty.t.prof) rfl;have s0:=CX HP4.out 0 (.int .i64 st.place) rfl;have htm:=HLB.out.time;have hopn:=HTT.out.opn
   have HGO:=hid (Ny m ty.t.prof lb.l.place st.place lb.l.time w4 (HM.out w4 HB4.out) HOK.out (by omega) (HT.out w4 HB4.out));have hgb:=GP HOK.out ty.t.prof lb.l.place st.place (t:=lb.l.time) (by omega)
   go_wp2_with (refine wL rfl 25 _ rfl h1 0 rfl [.slice m.pA m.places.length m.pc,.slice m.aA m.arcs.length m.ac] _ (fun j v h=>by rw [Nat.zero_add];exact CX HK14.out j v (by match j,h with | 0,h=>exact h | 1,h=>exact h | j+2,h=>simp at h)) Tryz.underlying25 rfl (by kernel_rfl) ?_)
   refine HGO.out.mono ?_;rintro e w5 ⟨rfl,hb5⟩;clear HGO r2 r3 t6 s0;have HB5:=hid (bL HB4.out hb5);have HK15:=hid (rK HK14.out hb5);have HK25:=hid (rK HK24.out hb5);have HK35:=hid (rK HK34.out hb5);have HP5:=hid (rK HP4.out hb5);have HQ5:=hid (rK HQ4.out hb5);clear hb5 HK14 HK24 HK34 HP4 HQ4 HB4
   have HEX:=hid (show eL m.v m.types[k].t lb.l ((o:Int),v2)=if (gP m.v ty.t.prof lb.l.place st.place lb.l.time).2.2≠0 then [] else if ty.t.drive<lb.l.driven+(gP m.v ty.t.prof lb.l.place st.place lb.l.time).1 - lb.l.time then [] else if st.cls<(gP m.v ty.t.prof lb.l.place st.place lb.l.time).1 then [] else
    if dE st (gP m.v ty.t.prof lb.l.place st.place lb.l.time).1≠0 then [] else if !fL (Ap m.v lb.l.load ((o:Int),v2)) ty.t.cap then [] else WL ty.t (sb m.v ty.t lb.l ((o:Int),v2) st (gP m.v ty.t.prof lb.l.place st.place lb.l.time).1 (gP m.v ty.t.prof lb.l.place st.place lb.l.time).2.1) by
     rw [<- HTY.out];unfold eL;rw [HSTOP.out];simp only;rw [HRDY.out];rfl)
   obtain ⟨G,hG⟩:∃ G,G=gP m.v ty.t.prof lb.l.place st.place lb.l.time:=⟨_,rfl⟩
   rw [<- hG] at HEX hgb;rw [<- hG];clear hG;obtain ⟨gv,gm,ge⟩:=G;simp only at HEX hgb;simp only;have hdr:=HLB.out.driven;have r3:=CX HK25.out 3 (.int .i64 lb.l.time) rfl;have r4:=CX HK25.out 4 (.int .i64 lb.l.driven) rfl;have t9:=CX HQ5.out 9 (.int .i64 ty.t.drive) rfl;have s2:=CX HP5.out 2 (.int .i64 st.cls) rfl;have HSO:=hid (Sl HSTO.out.1);by_cases he:ge=0
   ·subst he
    by_cases hdv:ty.t.drive<lb.l.driven+gv - lb.l.time
    ·have HE:=hid (HEX.out.trans ((if_neg (by decide)).trans (if_pos hdv)))
     clear HEX;go_wp2_with fail;go_ret;exact LE.none HE.out HB5.out
    ·by_cases hcl:st.cls<gv
     ·have HE:=hid (HEX.out.trans ((if_neg (by decide)).trans ((if_neg hdv).trans (if_pos hcl))))
      clear HEX;go_wp2_with fail;go_ret;exact LE.none HE.out HB5.out
     ·have HEX2:=hid (HEX.out.trans ((if_neg (by decide)).trans ((if_neg hdv).trans (if_neg hcl))))
      have HDP:=hid (wY st gv w5 HSTO.out.1 (by omega));have HDV:=hid hdv;clear HEX;go_wp2_with (refine lr HP5.out Tryz.underlying134 ?_)
      refine HDP.out.mono ?_;rintro e w6 ⟨rfl,hb6⟩;have HB6:=hid (bL HB5.out hb6);have HK16:=hid (rK HK15.out hb6);have HK26:=hid (rK HK25.out hb6);have HK36:=hid (rK HK35.out hb6);have HP6:=hid (rK HP5.out hb6);have HQ6:=hid (rK HQ5.out hb6)
      have HLD:=hid (lloaded_any m lb ((o:Int),v2) w6 (HM.out w6 HB6.out) HOK.out hml (HAT.out w6 HB6.out) (HLB.out.load.mono (by omega)) hv);clear HDP hb6 HK15 HK25 HK35 HP5 HQ5 HB5 r3 r4 t9 s2 hdv;go_wp2_with (first | (refine lr HK16.out Tryz.underlying30 ?_) | (refine lr HK26.out Tryz.underlying65 ?_) | (refine lr HK36.out Tryz.underlying92 ?_))
      refine HLD.out.mono ?_;rintro e w7 ⟨LA,lc,rfl,hlc,hb7⟩;have HB7:=hid (bL HB6.out hb7);have HK17:=hid (rK HK16.out hb7);have HK27:=hid (rK HK26.out hb7);have HK37:=hid (rK HK36.out hb7);have HP7:=hid (rK HP6.out hb7);have HQ7:=hid (rK HQ6.out hb7);have HLC:=hid hlc;clear HLD hb7 HK16 HK26 HK36 HP6 HQ6 HB6 hlc
      have hde:dE st gv=0:=by have:=HSO.out;unfold dE;rw [if_neg (by omega)]
      have hdvv:DV st gv=max gv st.opn+st.serv:=by have:=HSO.out;unfold DV;rw [if_neg (by omega)]
      have hdb:0<=DV st gv/\DV st gv<=8192:=by have:=HSO.out;omega
      have HEX3:=hid (HEX2.out.trans (if_neg (by rw [hde];decide)));have HLVO:=hid (loadV_ok HOK.out HLB.out.load (v:=((o:Int),v2)) hv.1 (by rw [oL];exact hv.2));obtain ⟨LL,hLL⟩:∃ LL,LL=Ap m.v lb.l.load ((o:Int),v2):=⟨_,rfl⟩
      rw [<- hLL] at HEX3 HLC HLVO;rw [<- hLL,hde];have HLL:=hid hLL;obtain ⟨dv,hdv2⟩:∃ dv,dv=DV st gv:=⟨_,rfl⟩
      rw [<- hdv2] at hdb;rw [<- hdv2];have HDVE:=hid hdv2;clear hde hdvv hdv2 hLL HEX2;have t4:=CX HQ7.out 4 (.slice ty.A ty.t.cap.length ty.ca) rfl;have HFT:=hid (Ly LL ty.t.cap LA ty.A lc ty.ca w7 (OR.cells HLC.out) (HTYA.out w7 HB7.out).cap (OR.cap HLC.out) (HTYA.out w7 HB7.out).cl (by have h1:=HLVO.out.len;have h2:=HTX.out.cap;omega));go_wp2_with fail
      refine HFT.out.mono ?_;rintro e w8 ⟨rfl,hw8⟩;obtain rfl:=hw8.symm;clear HFT t4
      cases hft:fL LL ty.t.cap with
      |false =>
       have HE:=hid (HEX3.out.trans (if_pos (by rw [hft];decide)));clear hft HEX3;go_wp2_with fail;go_ret;exact LE.none HE.out HB7.out
      |true =>
       have HEX4:=hid (HEX3.out.trans (if_neg (by rw [hft];decide)));have hmi:=HLB.out.miles;clear hft HEX3;have r0:=CX HK27.out 0 (.int .i64 lb.l.kind) rfl;rw [hkd.out] at r0;have r3:=CX HK27.out 3 (.int .i64 lb.l.time) rfl;have r4:=CX HK27.out 4 (.int .i64 lb.l.driven) rfl;have r5:=CX HK27.out 5 (.int .i64 lb.l.miles) rfl
       have r7:=CX HK27.out 7 (.int .i64 (lb.l.dn:Int)) rfl;have r8:=CX HK27.out 8 (.int .i64 (lb.l.op:Int)) rfl;have s0:=CX HP7.out 0 (.int .i64 st.place) rfl
       have hbt:=(show Tryz.prog.built 65 [(0,.int .i64 (k:Int)),(2,.int .i64 st.place),(3,.int .i64 dv),(4,.int .i64 (lb.l.driven+gv - lb.l.time)),(5,.int .i64 (lb.l.miles+gm)),(6,.slice LA LL.length lc),(7,.int .i64 (lb.l.dn:Int)),(8,.int .i64 (lb.l.op:Int))]=some #[.int .i64 (k:Int),.slice none 0 0,.int .i64 st.place,.int .i64 dv,.int .i64 (lb.l.driven+gv - lb.l.time),.int .i64 (lb.l.miles+gm),.slice LA LL.length lc,.int .i64 (lb.l.dn:Int),.int .i64 (lb.l.op:Int)] by kernel_rfl)
       obtain ⟨_,p9⟩:=Na w7 (.cells LZ 65);obtain ⟨q9,b9⟩:=nS w7 LZ #[.int .i64 (k:Int),.slice none 0 0,.int .i64 st.place,.int .i64 dv,.int .i64 (lb.l.driven+gv - lb.l.time),.int .i64 (lb.l.miles+gm),.slice LA LL.length lc,.int .i64 (lb.l.dn:Int),.int .i64 (lb.l.op:Int)] 65
       go_upto_region 15 with (refine wpList_store_row rfl 65 _ _ rfl w7.heap.size #[.int .i64 (k:Int),.slice none 0 0,.int .i64 st.place,.int .i64 dv,.int .i64 (lb.l.driven+gv - lb.l.time),.int .i64 (lb.l.miles+gm),.slice LA LL.length lc,.int .i64 (lb.l.dn:Int),.int .i64 (lb.l.op:Int)] rfl rfl 65 _ p9 (by kernel_rfl) rfl (by kernel_rfl) ?_)
       (try simp only [Act.put]);generalize (w7.alloc (.cells LZ 65)).setRow w7.heap.size #[.int .i64 (k:Int),.slice none 0 0,.int .i64 st.place,.int .i64 dv,.int .i64 (lb.l.driven+gv - lb.l.time),.int .i64 (lb.l.miles+gm),.slice LA LL.length lc,.int .i64 (lb.l.dn:Int),.int .i64 (lb.l.op:Int)]=w9 at *;have HB9:=hid (bL HB7.out b9);have HK19:=hid (rK HK17.out b9)
       have HK29:=hid (rK HK27.out b9);have HK39:=hid (rK HK37.out b9);have HQ9:=hid (rK HQ7.out b9);have HO9:=hid q9;obtain ⟨ho14,hh14⟩:∃ ho14,ho14=w7.heap.size:=⟨_,rfl⟩
       have HGE:=hid (show w.heap.size<=ho14 by rw [hh14];exact HB7.out.size);have HLC9:=hid (OR.below HLC.out b9);have HNEh1:=hid (show h1≠ho14 by rw [hh14];exact Nat.ne_of_lt (lh HK17.out));have HNEh2:=hid (show h2≠ho14 by rw [hh14];exact Nat.ne_of_lt (lh HK27.out));have HNEh3:=hid (show h3≠ho14 by rw [hh14];exact Nat.ne_of_lt (lh HK37.out))
       have HNEh9:=hid (show h9≠ho14 by rw [hh14];exact Nat.ne_of_lt (lh HQ7.out));rw [<- hh14] at HO9;rw [<- hh14];clear hh14 p9 q9 b9 hbt r0 r3 r4 r5 r7 r8 s0 HK17 HK27 HK37 HP7 HQ7 HB7 HLC;obtain ⟨n,hn⟩:∃ n,n=lb.l.vis.length:=⟨_,rfl⟩
       have HN:=hid hn;have hn7:n<=7:=by omega
       have HAT9:=hid (HAT.out w9 HB9.out);have r1:=CX HK29.out 1 (.slice lb.A lb.l.vis.length lb.ca) rfl;rw [<- hn] at r1;have mk:∀ w:World,(Instr.makeSlice 32 (.int .i64 (n:Int)) (.int .i64 ((n:Int)+1))).run Tryz.prog w=.ok (.slice (some ⟨w.heap.size,0,none⟩) n (n+1)) (w.alloc (.cells (madeCells #[.int .i64 0,.bool false] ((n+1)*2)) 92)):=fun w=>vis_make n (by omega) w
       obtain ⟨nB,pB⟩:=Na w9 (.cells (madeCells #[.int .i64 0,.bool false] ((n+1)*2)) 92);have x1:=CX (rK HO9.out nB) 1 (.slice none 0 0) rfl;have f1:=fz (rK HO9.out nB) 1;have hneB:ho14≠w9.heap.size:=Nat.ne_of_lt (lh HO9.out);clear hn;go_upto_region 16 with fail
       have HOA:=hid (show ((w9.alloc (.cells (madeCells #[.int .i64 0,.bool false] ((n+1)*2)) 92)).setCell ⟨ho14,1,none⟩ (.slice (some ⟨w9.heap.size,0,none⟩) n (n+1))).heap[ho14]? = some (.cells (#[.int .i64 (k:Int),.slice (some ⟨w9.heap.size,0,none⟩) n (n+1),.int .i64 st.place,.int .i64 dv,.int .i64 (lb.l.driven+gv - lb.l.time),.int .i64 (lb.l.miles+gm),.slice LA LL.length lc,.int .i64 (lb.l.dn:Int),.int .i64 (lb.l.op:Int)]) 65) by rw [Hp (rK HO9.out nB)];rfl)
       have HGA:=hid ((Below.heap_setCell (w9.alloc (.cells (madeCells #[.int .i64 0,.bool false] ((n+1)*2)) 92)) ⟨ho14,1,none⟩ (.slice (some ⟨w9.heap.size,0,none⟩) n (n+1)) w9.heap.size hneB.symm).trans pB)
       have HK1A:=hid (show ((w9.alloc (.cells (madeCells #[.int .i64 0,.bool false] ((n+1)*2)) 92)).setCell ⟨ho14,1,none⟩ (.slice (some ⟨w9.heap.size,0,none⟩) n (n+1))).heap[h1]? = _ from (Below.heap_setCell _ _ _ _ (HNEh1.out)).trans (rK HK19.out nB))
       have HK2A:=hid (show ((w9.alloc (.cells (madeCells #[.int .i64 0,.bool false] ((n+1)*2)) 92)).setCell ⟨ho14,1,none⟩ (.slice (some ⟨w9.heap.size,0,none⟩) n (n+1))).heap[h2]? = _ from (Below.heap_setCell _ _ _ _ (HNEh2.out)).trans (rK HK29.out nB))
       have HK3A:=hid (show ((w9.alloc (.cells (madeCells #[.int .i64 0,.bool false] ((n+1)*2)) 92)).setCell ⟨ho14,1,none⟩ (.slice (some ⟨w9.heap.size,0,none⟩) n (n+1))).heap[h3]? = _ from (Below.heap_setCell _ _ _ _ (HNEh3.out)).trans (rK HK39.out nB))
       have HQA:=hid (show ((w9.alloc (.cells (madeCells #[.int .i64 0,.bool false] ((n+1)*2)) 92)).setCell ⟨ho14,1,none⟩ (.slice (some ⟨w9.heap.size,0,none⟩) n (n+1))).heap[h9]? = _ from (Below.heap_setCell _ _ _ _ (HNEh9.out)).trans (rK HQ9.out nB))
       have HBA:=hid ((HB9.out.trans (nB.mono HB9.out.size)).setCell (p:=⟨ho14,1,none⟩) HGE.out (.slice (some ⟨w9.heap.size,0,none⟩) n (n+1)));have HKTA:=hid ((KT.below nB).trans (KT.store (ts:=[65]) (j:=1) (v:=.slice (some ⟨w9.heap.size,0,none⟩) n (n+1)) (rK HO9.out nB) (by decide)))
       have HSA:=hid (show w9.heap.size<((w9.alloc (.cells (madeCells #[.int .i64 0,.bool false] ((n+1)*2)) 92)).setCell ⟨ho14,1,none⟩ (.slice (some ⟨w9.heap.size,0,none⟩) n (n+1))).heap.size from lh HGA.out);generalize (w9.alloc (.cells (madeCells #[.int .i64 0,.bool false] ((n+1)*2)) 92)).setCell ⟨ho14,1,none⟩ (.slice (some ⟨w9.heap.size,0,none⟩) n (n+1))=wA at *
       obtain ⟨gB,hgB⟩:∃ gB,gB=w9.heap.size:=⟨_,rfl⟩
       rw [<- hgB] at HOA HGA HSA hneB;rw [<- hgB];have HGB:=hid (show ∀ g o,w9.heap[g]? = some o->g<gB from fun g o h=>by rw [hgB];exact lh h);have HWGB:=hid (show w.heap.size<=gB by rw [hgB];exact HB9.out.size);have HLTO:=hid (show ho14<gB by rw [hgB];exact lh HO9.out);have HLT1:=hid (HGB.out _ _ HK19.out);have HLT2:=hid (HGB.out _ _ HK29.out)
       have HLT3:=hid (HGB.out _ _ HK39.out);have HLTQ:=hid (HGB.out _ _ HQ9.out);have HLIN:=hid (fun a ha=>(oH HLC9.out a ha).2);rw [<- hgB] at HLIN;have HLCA:=hid (OR.keptT HLC9.out HKTA.out (by decide));clear hgB mk nB pB r1 x1 f1 HLC9 HKTA HB9 HK19 HK29 HK39 HQ9 HO9 HGB;have HATA:=hid (HAT.out wA HBA.out)
       obtain ⟨wB,hcrun,hcg,hcb⟩:=run_copy_wide (P:=Tryz.prog) wA 32 32 3 92 gB n (n+1) lb.A n lb.ca 2 _ 92 (lb.l.vis.flatMap VC) Tryz.underlying32 pvis_size (by decide) HGA.out (Nat.le_refl _) (by rw [fl VC vC,HN.out]) HATA.out.vis (by rw [fl VC vC,size_madeCells,<- HN.out];omega) (fun v hv=>by obtain ⟨u,_,hu⟩:=List.mem_flatMap.1 hv;simp [VC] at hu;rcases hu with rfl | rfl <;> rfl)
       have x1:=CX HOA.out 1 (.slice (some ⟨gB,0,none⟩) n (n+1)) rfl;have r1:=CX HK2A.out 1 (.slice lb.A lb.l.vis.length lb.ca) rfl;rw [<- HN.out] at r1;go_upto_region 17 with fail
       have HOWN:=hid (show VO wB gB (some ⟨gB,0,none⟩) (n+1) lb.l.vis from ⟨by rw [fl VC vC],.inr ⟨gB,n+1,_,rfl,Nat.le_refl _,hcg,by rw [<- HN.out];omega,by unfold maxLen;omega,by
        rw [List.size_toArray,List.length_append,List.length_drop,fl VC vC,Array.length_toList,size_madeCells,<- HN.out];omega,by
        rw [List.toList_toArray,<- fl VC vC,List.take_left]⟩⟩)
       have HBB:=hid (HBA.out.trans (hcb.mono HWGB.out));have HSB:=hid (Nat.le_trans (Nat.le_of_lt HSA.out) hcb.size);have HOB:=hid ((hcb.block _ HLTO.out).trans HOA.out);have HK1B:=hid ((hcb.block _ HLT1.out).trans HK1A.out);have HK3B:=hid ((hcb.block _ HLT3.out).trans HK3A.out);have HQB:=hid ((hcb.block _ HLTQ.out).trans HQA.out)
       have HLCB:=hid (OR.keep HLCA.out fun b hA=>hcb.block _ (HLIN.out _ hA));clear hcg hcb hcrun x1 r1 HOA HGA HK1A HK2A HK3A HQA HLCA HBA HSA HATA;have x1:=CX HOB.out 1 (.slice (some ⟨gB,0,none⟩) n (n+1)) rfl
       go_upto_region 18 with (first | (refine lr HK3B.out Tryz.underlying92 ?_) | (at_builtin;go_loud (refine wp_visN ep rfl _ _ rfl rfl rfl rfl gB (some ⟨gB,0,none⟩) n (n+1) lb.l.vis HN.out wB ((o:Int),v2) rfl HOWN.out rfl (by rw [<- HN.out];omega) HSB.out ?_;intro A4 c4 wC hown4 hb4 hkp4 hwh4;obtain ⟨hg4,o4,f4⟩:=app_row hkp4 HOB.out (HOWN.out.far HOB.out (by decide)) 1 (.slice (some ⟨gB,0,none⟩) n (n+1)) rfl)))
       have HO4:=hid (show (wC.setCell ⟨ho14,1,none⟩ (.slice A4 (n+1) c4)).heap[ho14]? = some (.cells #[.int .i64 (k:Int),.slice A4 (n+1) c4,.int .i64 st.place,.int .i64 dv,.int .i64 (lb.l.driven+gv - lb.l.time),.int .i64 (lb.l.miles+gm),.slice LA LL.length lc,.int .i64 (lb.l.dn:Int),.int .i64 (lb.l.op:Int)] 65) by rw [Hp hg4];rfl)
       have HV4:=hid (OR.keptT hown4 (KT.store (ts:=[65]) (j:=1) (v:=.slice A4 (n+1) c4) hg4 (by decide)) (by decide));have HLC4:=hid (OR.keptT (OR.keep HLCB.out fun b hA=>hb4.block _ (HLIN.out _ hA)) (KT.store (ts:=[65]) (j:=1) (v:=.slice A4 (n+1) c4) hg4 (by decide)) (by decide))
       have HB4b:=hid ((HBB.out.trans (hb4.mono HWGB.out)).setCell (p:=⟨ho14,1,none⟩) HGE.out (.slice A4 (n+1) c4));have HK14:=hid (show (wC.setCell ⟨ho14,1,none⟩ (.slice A4 (n+1) c4)).heap[h1]? = _ from (Below.heap_setCell _ _ _ _ (HNEh1.out)).trans ((hb4.block _ HLT1.out).trans HK1B.out))
       have HK34:=hid (show (wC.setCell ⟨ho14,1,none⟩ (.slice A4 (n+1) c4)).heap[h3]? = _ from (Below.heap_setCell _ _ _ _ (HNEh3.out)).trans ((hb4.block _ HLT3.out).trans HK3B.out));have HQ4:=hid (show (wC.setCell ⟨ho14,1,none⟩ (.slice A4 (n+1) c4)).heap[h9]? = _ from (Below.heap_setCell _ _ _ _ (HNEh9.out)).trans ((hb4.block _ HLTQ.out).trans HQB.out))
       clear o4 f4 hg4 hown4 hb4 hkp4 hwh4 x1 HOB HK1B HK3B HQB HLCB HBB HSB HOWN;(try simp only [Act.put]);generalize wC.setCell ⟨ho14,1,none⟩ (.slice A4 (n+1) c4)=wD at *;have z0:=CX HK34.out 0 (.int .i64 (o:Int)) rfl;have x7:=CX HO4.out 7 (.int .i64 (lb.l.dn:Int)) rfl;have f7:=fz HO4.out 7;have ho3:o<3:=by omega
       have hdn:=HLB.out.dn;have hop:=HLB.out.op;have HORB:=hid (or_bit lb.l.dn hdn o ho3);go_upto_region 20 with fail;rw [HORB.out]
       have HO5:=hid (show (wD.setCell ⟨ho14,7,none⟩ (.int .i64 ((lb.l.dn ||| 1 <<< o:Nat):Int))).heap[ho14]? = some (.cells #[.int .i64 (k:Int),.slice A4 (n+1) c4,.int .i64 st.place,.int .i64 dv,.int .i64 (lb.l.driven+gv - lb.l.time),.int .i64 (lb.l.miles+gm),.slice LA LL.length lc,.int .i64 ((lb.l.dn ||| 1 <<< o:Nat):Int),.int .i64 (lb.l.op:Int)] 65) by rw [Hp HO4.out];rfl)
       have HKT5:=hid (KT.store (ts:=[65]) (j:=7) (v:=.int .i64 ((lb.l.dn ||| 1 <<< o:Nat):Int)) HO4.out (by decide));have HB5:=hid (HB4b.out.setCell (p:=⟨ho14,7,none⟩) HGE.out (.int .i64 ((lb.l.dn ||| 1 <<< o:Nat):Int)));have HV5:=hid (OR.keptT HV4.out HKT5.out (by decide));have HLC5:=hid (OR.keptT HLC4.out HKT5.out (by decide))
       have HK15:=hid (HKT5.out.row _ _ _ _ HK14.out (by decide));have HK35:=hid (HKT5.out.row _ _ _ _ HK34.out (by decide));have HQ5:=hid (HKT5.out.row _ _ _ _ HQ4.out (by decide));clear z0 x7 f7 HO4 HKT5 HB4b HV4 HLC4 HK14 HK34 HQ4;generalize wD.setCell ⟨ho14,7,none⟩ (.int .i64 ((lb.l.dn ||| 1 <<< o:Nat):Int))=wE at *;have z0:=CX HK35.out 0 (.int .i64 (o:Int)) rfl
       have z1:=CX HK35.out 1 (.bool v2) rfl;have x8:=CX HO5.out 8 (.int .i64 (lb.l.op:Int)) rfl;have f8:=fz HO5.out 8;obtain ⟨go,oo,hOA,hgo,hoc⟩:=eP OM.cells_len (by decide) (HM.out wE HB5.out).ords (by omega);have hoc6:=hoc o ho 6 _ rfl;have hol:=(HM.out wE HB5.out).ol;unfold maxLen at hol;have hol1:(o:Int)<(m.ords.length:Int):=by omega
       have HDH:=hid (dropHas_in ho);have q3:=CX HK15.out 3 (.slice m.oA m.ords.length m.oc) rfl;rw [hOA] at q3;have HORP:=hid (or_bit lb.l.op hop o ho3);have HCLP:=hid (clr_bitN lb.l.op hop o ho3);have hrs:=HTT.out.rest;generalize m.ords[o].o.drop.place=dp at *;clear hOA hoc hgo HK15 HK35 HNEh1 HNEh2 HNEh3 HNEh9 HLT1 HLT2 HLT3 HLTQ HLIN HORB
       cases v2 with
       |true =>
        go_upto_region 24 with fail;rw [HCLP.out]
        have HCE:=hid (cells_of (⟨A4,c4,LA,lc,sb m.v ty.t lb.l ((o:Int),true) st gv gm⟩:Lb) (k:=(k:Int)) (n:=n+1) (pl:=st.place) (dv:=dv) (dr:=lb.l.driven+gv - lb.l.time) (mi:=lb.l.miles+gm) (L:=LL.length) (dn:=lb.l.dn ||| 1 <<< o) (op:=clrN lb.l.op o) hkd.out (by show (lb.l.vis ++ [_]).length=_;rw [sL,HN.out]) rfl HDVE.out.symm rfl rfl (by rw [HLL.out];rfl) (by show lb.l.dn ||| 1 <<< (o:Int).toNat=_;rw [Int.toNat_natCast]) (by show opS m.v lb.l.op ((o:Int),true)=_;unfold opS;simp))
        have HO6:=hid (show (wE.setCell ⟨ho14,8,none⟩ (.int .i64 ((clrN lb.l.op o:Nat):Int))).heap[ho14]? = some (.cells (⟨A4,c4,LA,lc,sb m.v ty.t lb.l ((o:Int),true) st gv gm⟩:Lb).cells.toArray 65) by rw [HCE.out,Hp HO5.out];rfl);have HKT6:=hid (KT.store (ts:=[65]) (j:=8) (v:=.int .i64 ((clrN lb.l.op o:Nat):Int)) HO5.out (by decide))
        have HB6:=hid (HB5.out.setCell (p:=⟨ho14,8,none⟩) HGE.out (.int .i64 ((clrN lb.l.op o:Nat):Int)));have HV6:=hid (OR.keptT HV5.out HKT6.out (by decide));have HLC6:=hid (OR.keptT HLC5.out HKT6.out (by decide));have HQ6:=hid (HKT6.out.row _ _ _ _ HQ5.out (by decide));clear HKT6 HO5 HB5 HV5 HLC5 HQ5 x8 f8 z0 z1 q3 hoc6
        generalize wE.setCell ⟨ho14,8,none⟩ (.int .i64 ((clrN lb.l.op o:Nat):Int))=wF at *;have HWT:=hid (ly ty (⟨A4,c4,LA,lc,sb m.v ty.t lb.l ((o:Int),true) st gv gm⟩:Lb) wF hrs (show 0<=DV st gv/\DV st gv<=1000000 by rw [<- HDVE.out];omega) ⟨OR.mono HV6.out (Nat.zero_le _),by have h:=OR.mono HLC6.out (Nat.zero_le _);rw [HLL.out] at h;exact h⟩)
        go_wp2_with (first | (refine lr HQ6.out Tryz.underlying81 ?_) | (refine lr HO6.out Tryz.underlying65 ?_))
        refine HWT.out.mono ?_;rintro e wG ⟨RA,rc,ms,rfl,hrow,heq,hbG⟩;have HROW:=hid hrow;have HEQ:=hid heq;have HBG:=hid hbG;clear hrow heq hbG HWT;go_wp2_with fail;go_ret;exact ⟨RA,rc,ms,rfl,HROW.out.mono HB6.out.size,HEQ.out.trans HEX4.out.symm,bL HB6.out HBG.out⟩
       |false =>
        by_cases hdp:0<=dp
        ·have hdpb:decide ((0:Int)<=dp)=true:=decide_eq_true hdp
         go_upto_region 24 with fail;rw [HORP.out]
         have HCE:=hid (cells_of (⟨A4,c4,LA,lc,sb m.v ty.t lb.l ((o:Int),false) st gv gm⟩:Lb) (k:=(k:Int)) (n:=n+1) (pl:=st.place) (dv:=dv) (dr:=lb.l.driven+gv - lb.l.time) (mi:=lb.l.miles+gm) (L:=LL.length) (dn:=lb.l.dn ||| 1 <<< o) (op:=lb.l.op ||| 1 <<< o) hkd.out (by show (lb.l.vis ++ [_]).length=_;rw [sL,HN.out]) rfl HDVE.out.symm rfl rfl (by rw [HLL.out];rfl) (by show lb.l.dn ||| 1 <<< (o:Int).toNat=_;rw [Int.toNat_natCast]) (by show opS m.v lb.l.op ((o:Int),false)=_;unfold opS;rw [if_neg Bool.false_ne_true,if_pos (by rw [HDH.out];exact decide_eq_true hdp),Int.toNat_natCast]))
         have HO6:=hid (show (wE.setCell ⟨ho14,8,none⟩ (.int .i64 ((lb.l.op ||| 1 <<< o:Nat):Int))).heap[ho14]? = some (.cells (⟨A4,c4,LA,lc,sb m.v ty.t lb.l ((o:Int),false) st gv gm⟩:Lb).cells.toArray 65) by rw [HCE.out,Hp HO5.out];rfl);have HKT6:=hid (KT.store (ts:=[65]) (j:=8) (v:=.int .i64 ((lb.l.op ||| 1 <<< o:Nat):Int)) HO5.out (by decide))
         have HB6:=hid (HB5.out.setCell (p:=⟨ho14,8,none⟩) HGE.out (.int .i64 ((lb.l.op ||| 1 <<< o:Nat):Int)));have HV6:=hid (OR.keptT HV5.out HKT6.out (by decide));have HLC6:=hid (OR.keptT HLC5.out HKT6.out (by decide));have HQ6:=hid (HKT6.out.row _ _ _ _ HQ5.out (by decide));clear HKT6 HO5 HB5 HV5 HLC5 HQ5 x8 f8 z0 z1 q3 hoc6
         generalize wE.setCell ⟨ho14,8,none⟩ (.int .i64 ((lb.l.op ||| 1 <<< o:Nat):Int))=wF at *;have HWT:=hid (ly ty (⟨A4,c4,LA,lc,sb m.v ty.t lb.l ((o:Int),false) st gv gm⟩:Lb) wF hrs (show 0<=DV st gv/\DV st gv<=1000000 by rw [<- HDVE.out];omega) ⟨OR.mono HV6.out (Nat.zero_le _),by have h:=OR.mono HLC6.out (Nat.zero_le _);rw [HLL.out] at h;exact h⟩)
         go_wp2_with (first | (refine lr HQ6.out Tryz.underlying81 ?_) | (refine lr HO6.out Tryz.underlying65 ?_))
         refine HWT.out.mono ?_;rintro e wG ⟨RA,rc,ms,rfl,hrow,heq,hbG⟩;have HROW:=hid hrow;have HEQ:=hid heq;have HBG:=hid hbG;clear hrow heq hbG HWT;go_wp2_with fail;go_ret;exact ⟨RA,rc,ms,rfl,HROW.out.mono HB6.out.size,HEQ.out.trans HEX4.out.symm,bL HB6.out HBG.out⟩
        ·have hdpb:decide ((0:Int)<=dp)=false:=decide_eq_false hdp
         have hdp2:dp<0:=by omega
         go_upto_region 24 with fail
         have HCE:=hid (cells_of (⟨A4,c4,LA,lc,sb m.v ty.t lb.l ((o:Int),false) st gv gm⟩:Lb) (k:=(k:Int)) (n:=n+1) (pl:=st.place) (dv:=dv) (dr:=lb.l.driven+gv - lb.l.time) (mi:=lb.l.miles+gm) (L:=LL.length) (dn:=lb.l.dn ||| 1 <<< o) (op:=lb.l.op) hkd.out (by show (lb.l.vis ++ [_]).length=_;rw [sL,HN.out]) rfl HDVE.out.symm rfl rfl (by rw [HLL.out];rfl) (by show lb.l.dn ||| 1 <<< (o:Int).toNat=_;rw [Int.toNat_natCast]) (by show opS m.v lb.l.op ((o:Int),false)=_;unfold opS;rw [if_neg Bool.false_ne_true,if_neg (by rw [HDH.out,decide_eq_false hdp];decide)]))
         have HO6:=hid (show wE.heap[ho14]? = some (.cells (⟨A4,c4,LA,lc,sb m.v ty.t lb.l ((o:Int),false) st gv gm⟩:Lb).cells.toArray 65) by rw [HCE.out];exact HO5.out);have HB6:=HB5;have HV6:=HV5;have HLC6:=HLC5;have HQ6:=HQ5;clear HO5 HB5 HV5 HLC5 HQ5 x8 f8 z0 z1 q3 hoc6
         have HWT:=hid (ly ty (⟨A4,c4,LA,lc,sb m.v ty.t lb.l ((o:Int),false) st gv gm⟩:Lb) wE hrs (show 0<=DV st gv/\DV st gv<=1000000 by rw [<- HDVE.out];omega) ⟨OR.mono HV6.out (Nat.zero_le _),by have h:=OR.mono HLC6.out (Nat.zero_le _);rw [HLL.out] at h;exact h⟩);go_wp2_with (first | (refine lr HQ6.out Tryz.underlying81 ?_) | (refine lr HO6.out Tryz.underlying65 ?_))
         refine HWT.out.mono ?_;rintro e wG ⟨RA,rc,ms,rfl,hrow,heq,hbG⟩;have HROW:=hid hrow;have HEQ:=hid heq;have HBG:=hid hbG;clear hrow heq hbG HWT;go_wp2_with fail;go_ret;exact ⟨RA,rc,ms,rfl,HROW.out.mono HB6.out.size,HEQ.out.trans HEX4.out.symm,bL HB6.out HBG.out⟩
   ·have HE:=hid (HEX.out.trans (if_pos he))
    have heb:=ib he;have heb2:(ge != 0)=true:=by simpa using he
    clear he HEX;go_wp2_with fail;go_ret;exact LE.none HE.out HB5.out
end Go.Proofs.YtjcekdiocliddaaGreatDoor

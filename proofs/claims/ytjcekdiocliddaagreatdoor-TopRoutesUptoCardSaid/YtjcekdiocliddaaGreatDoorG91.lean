/- label.Close. (Printed by wip/tk/mkToM.py.) -/
import Derived.Test.YtjcekdiocliddaaGreatDoorG88
import Derived.Test.YtjcekdiocliddaaGreatDoorG83
import Derived.Test.YtjcekdiocliddaaGreatDoorG85
import Derived.Test.YtjcekdiocliddaaGreatDoorG90
import Derived.Test.YtjcekdiocliddaaGreatDoorToL
import Derived.Deep.LoopGhost
namespace Go.Proofs.YtjcekdiocliddaaGreatDoor
open Lib (hid)
open Go.RowKit Num Txt Pf Tk
set_option maxHeartbeats 32000000
set_option maxRecDepth 100000
set_option linter.unusedVariables false
attribute [local go_sem] BS Bg Bt Bm Be Ba
def cloA:Option (Int × Int)->Array Value
 |none=>#[.int .i64 0,.int .i64 0,.bool false]
 |some p=>#[.int .i64 p.1,.int .i64 p.2,.bool true]
def CloE (c:Option (Int × Int)) (w:World) (e:Ending) (w':World):Prop:=e=.returned (.tuple (cloA c))/\Below w.heap.size w w'
theorem CloE.no {c:Option (Int × Int)} {w w':World} (h:c=none) (hb:Below w.heap.size w w'):CloE c w (.returned (.tuple #[.int .i64 0,.int .i64 0,.bool false])) w':=by subst h;exact ⟨rfl,hb⟩
theorem CloE.yes {c:Option (Int × Int)} {e n:Int} {w w':World} (h:c=some (e,n)) (hb:Below w.heap.size w w'):CloE c w (.returned (.tuple #[.int .i64 e,.int .i64 n,.bool true])) w':=by subst h;exact ⟨rfl,hb⟩
theorem lclose_any (m:IM) (k:Nat) (lb:Lb) (w:World) (hm:IA w m) (hok:IK m.v) (hml:m.ords.length<=3) (hT:Tb w) (hk:k<m.types.length) (hlb:Bj m.v m.types[k].t (k:Int) lb.l) (hat:Ah w lb) (hvl:lb.l.vis.length<=8) (hvr:∀ v ∈ lb.l.vis,0<=v.1/\v.1<(m.ords.length:Int)) :
  Calls Tryz.prog 15 #[iA m,.agg lb.cells.toArray] w (CloE (cL m.v m.types[k].t lb.l) w):=by
 obtain ⟨k1,k2,kb⟩:=aL w (.cells (iQ m) 30) (.cells lb.cells.toArray 65);have HB:=hid kb;have HK1:=hid k1;have HK2:=hid k2;have HM:=hid (fun w' (hb:Below w.heap.size w w')=>hm.below hb);have HT:=hid (fun w' (hb:Below w.heap.size w w')=>hT.below hb);have HAT:=hid (fun w' (hb:Below w.heap.size w w')=>hat.below hb);have HOK:=hid hok;have HLB:=hid hlb
 have HVR:=hid hvr;have htl:=hm.tl;have hkd:=hid hlb.kind;have HTT:=hid (hok.types _ (Ti (List.getElem_mem hk)));have HTX:=hid (hok.typesX _ (Ti (List.getElem_mem hk)));have hk2:(k:Int)<(m.types.length:Int):=by omega
 have hk0:¬ (k:Int)<0:=by omega
 have hvc:=hat.vl;unfold maxLen at htl hvc;clear hm hok hT hat hlb hvr k1 k2 kb;go_enter Tryz.func15,Tryz.ntmps15;(try simp only [Bm]);go_upto_region 1 with fail;rw [iq];generalize (w.alloc (.cells (iQ m) 30)).alloc (.cells lb.cells.toArray 65)=wa at *;obtain ⟨h1,hh1⟩:∃ h1,h1=w.heap.size:=⟨_,rfl⟩
 obtain ⟨h2,hh2⟩:∃ h2,h2=w.heap.size+1:=⟨_,rfl⟩
 rw [<- hh2] at HK2;rw [<- hh1] at HK1;rw [<- hh2,<- hh1];clear hh1 hh2;have r0:=CX HK2.out 0 (.int .i64 lb.l.kind) rfl;rw [hkd.out] at r0;have r1:=CX HK2.out 1 (.slice lb.A lb.l.vis.length lb.ca) rfl;have r8:=CX HK2.out 8 (.int .i64 (lb.l.op:Int)) rfl;have q2:=CX HK1.out 2 (.slice m.tA m.types.length m.tc) rfl;by_cases hv0:lb.l.vis.length=0
 ·have HE:=hid (show cL m.v m.types[k].t lb.l=none by unfold cL;rw [if_pos (.inl hv0)])
  have hb0:=iB (show (lb.l.vis.length:Int)=0 by omega);clear hv0;go_wp2_with fail;go_ret3;exact CloE.no HE.out HB.out
 by_cases ho0:lb.l.op≠0
 ·have HE:=hid (show cL m.v m.types[k].t lb.l=none by unfold cL;rw [if_pos (.inr ho0)])
  have hb0:=ib (show ¬ (lb.l.vis.length:Int)=0 by omega);have hb1:=ib (show ¬ (lb.l.op:Int)=0 by omega);have hb2:((lb.l.op:Int) != 0)=true:=by unfold bne;rw [hb1];rfl
  clear hv0 ho0;go_wp2_with fail;go_ret3;exact CloE.no HE.out HB.out
 have hb0:=ib (show ¬ (lb.l.vis.length:Int)=0 by omega);have hb1:=iB (show (lb.l.op:Int)=0 by omega);have hb2:((lb.l.op:Int) != 0)=false:=by unfold bne;rw [hb1];rfl
 have HEX:=hid (show cL m.v m.types[k].t lb.l=if (gP m.v m.types[k].t.prof lb.l.place m.types[k].t.tgt lb.l.time).2.2≠0 then none else if m.types[k].t.drive<lb.l.driven+(gP m.v m.types[k].t.prof lb.l.place m.types[k].t.tgt lb.l.time).1 - lb.l.time then none else if m.types[k].t.cls<(gP m.v m.types[k].t.prof lb.l.place m.types[k].t.tgt lb.l.time).1 then none else
  some ((gP m.v m.types[k].t.prof lb.l.place m.types[k].t.tgt lb.l.time).1,wV (sP m.v m.types[k].t lb.l.kind lb.l.vis (gP m.v m.types[k].t.prof lb.l.place m.types[k].t.tgt lb.l.time).1 (lb.l.miles+(gP m.v m.types[k].t.prof lb.l.place m.types[k].t.tgt lb.l.time).2.1))) by
   unfold cL;rw [if_neg (by rintro (h | h);exact hv0 h;exact ho0 h)])
 clear hv0 ho0;go_upto_region 3 with fail;obtain ⟨gt,ot,hTA,hgt,htc⟩:=eP Ty.cells_len (by decide) (HM.out wa HB.out).types (by omega);have HTC:=hid (fun j v h=>htc k hk j v h)
 have HPRI:=hid (fun (fin miles:Int) w' (hb:Below w.heap.size w w') (hf:0<=fin/\fin<=4096) (hmi:0<=miles/\miles<=1000000)=>show Calls Tryz.prog 23 #[iA m,.agg #[.int .i64 (k:Int),.int .i64 0,.slice none 0 0,.slice lb.A lb.l.vis.length lb.ca],.agg #[.bool false,.int .i64 0,.slice none 0 0,.int .i64 fin,.int .i64 miles]] w' (ScoreE (sP m.v m.types[k].t (k:Int) lb.l.vis fin miles) w') from proute_any m ⟨none,0,lb.A,lb.ca,⟨(k:Int),0,[],lb.l.vis⟩⟩ none 0 ⟨false,0,[],fin,miles⟩ w' (HM.out w' hb) HOK.out hml ⟨Cs.nil _ _,(HAT.out w' hb).vis,⟨Nat.zero_le _,Nat.zero_le _⟩,(HAT.out w' hb).vl,by unfold fits;simp only;omega,by unfold fits;simp only;omega,fun v hv=>by have:=HVR.out v hv;unfold fits;omega⟩ hvl HVR.out (by simp only;omega) (by simp only [Int.toNat_natCast];exact hk) hf hmi)
 rw [hTA] at q2;obtain ⟨ty,hty⟩:∃ ty,ty=m.types[k]:=⟨_,rfl⟩
 rw [<- hty] at HTC HTT HTX HLB HPRI;have HTY:=hid hty;clear hty htc hTA;obtain ⟨_,pw4⟩:=Na wa (.cells #[.string (B []),.int .i64 0,.int .i64 0,.int .i64 0,.slice none 0 0,.int .i64 0,.int .i64 0,.int .i64 0,.int .i64 0,.int .i64 0,.int .i64 0,.int .i64 0,.int .i64 0,.int .i64 0] 81)
 obtain ⟨q5,b5⟩:=nS wa #[.string (B []),.int .i64 0,.int .i64 0,.int .i64 0,.slice none 0 0,.int .i64 0,.int .i64 0,.int .i64 0,.int .i64 0,.int .i64 0,.int .i64 0,.int .i64 0,.int .i64 0,.int .i64 0] ty.cells.toArray 81
 go_upto_region 4 with (first | (refine wL rfl 81 _ rfl gt (ot+k*14) rfl ty.cells _ HTC.out Tryz.underlying81 rfl (by kernel_rfl) ?_) | (refine sw ty.cells.toArray pw4 ?_))
 (try simp only [Act.put]);generalize (wa.alloc (.cells #[.string (B []),.int .i64 0,.int .i64 0,.int .i64 0,.slice none 0 0,.int .i64 0,.int .i64 0,.int .i64 0,.int .i64 0,.int .i64 0,.int .i64 0,.int .i64 0,.int .i64 0,.int .i64 0] 81)).setRow wa.heap.size ty.cells.toArray=w4 at *;have HB4:=hid (bL HB.out b5);have HK14:=hid (rK HK1.out b5)
 have HK24:=hid (rK HK2.out b5);have HQ4:=hid q5;obtain ⟨h7,hh7⟩:∃ h7,h7=wa.heap.size:=⟨_,rfl⟩
 rw [<- hh7] at HQ4;rw [<- hh7];clear hh7 pw4 q5 b5 r0 r1 r8 q2 hgt HTC HK1 HK2 HB hb0 hb1 hb2;rw [<- HTY.out] at HEX;have r2:=CX HK24.out 2 (.int .i64 lb.l.place) rfl;have r3:=CX HK24.out 3 (.int .i64 lb.l.time) rfl;have t6:=CX HQ4.out 6 (.int .i64 ty.t.prof) rfl;have t3:=CX HQ4.out 3 (.int .i64 ty.t.tgt) rfl;have htm:=HLB.out.time;have hopn:=HTT.out.opn
 have HGO:=hid (Ny m ty.t.prof lb.l.place ty.t.tgt lb.l.time w4 (HM.out w4 HB4.out) HOK.out (by omega) (HT.out w4 HB4.out));have hgb:=GP HOK.out ty.t.prof lb.l.place ty.t.tgt (t:=lb.l.time) (by omega);have HGE:=hid (fun h=>goP_ge HOK.out (prof:=ty.t.prof) (frm:=lb.l.place) (tgt:=ty.t.tgt) (t:=lb.l.time) h)
 go_wp2_with (refine wL rfl 25 _ rfl h1 0 rfl [.slice m.pA m.places.length m.pc,.slice m.aA m.arcs.length m.ac] _ (fun j v h=>by rw [Nat.zero_add];exact CX HK14.out j v (by match j,h with | 0,h=>exact h | 1,h=>exact h | j+2,h=>simp at h)) Tryz.underlying25 rfl (by kernel_rfl) ?_)
 refine HGO.out.mono ?_;rintro e w5 ⟨rfl,hb5⟩;have HB5:=hid (bL HB4.out hb5);have HK15:=hid (rK HK14.out hb5);have HK25:=hid (rK HK24.out hb5);have HQ5:=hid (rK HQ4.out hb5);clear HGO r2 r3 t6 t3 hb5 HK14 HK24 HQ4 HB4;obtain ⟨G,hG⟩:∃ G,G=gP m.v ty.t.prof lb.l.place ty.t.tgt lb.l.time:=⟨_,rfl⟩
 rw [<- hG] at HEX hgb HGE;rw [<- hG];clear hG;obtain ⟨gv,gm,ge⟩:=G;simp only at HEX hgb HGE;simp only;have hdr:=HLB.out.driven;have hmi:=HLB.out.miles;have hcl4:=HTT.out.cls;have r3:=CX HK25.out 3 (.int .i64 lb.l.time) rfl;have r4:=CX HK25.out 4 (.int .i64 lb.l.driven) rfl;have t9:=CX HQ5.out 9 (.int .i64 ty.t.drive) rfl;have t8:=CX HQ5.out 8 (.int .i64 ty.t.cls) rfl
 by_cases he:ge=0
 ·have hge:=HGE.out he
  subst he;by_cases hdv:ty.t.drive<lb.l.driven+gv - lb.l.time
  ·have HE:=hid (HEX.out.trans ((if_neg (by decide)).trans (if_pos hdv)))
   clear HEX;go_wp2_with fail;go_ret3;exact CloE.no (by rw [<- HTY.out];exact HE.out) HB5.out
  ·by_cases hcl:ty.t.cls<gv
   ·have HE:=hid (HEX.out.trans ((if_neg (by decide)).trans ((if_neg hdv).trans (if_pos hcl))))
    clear HEX;go_wp2_with fail;go_ret3;exact CloE.no (by rw [<- HTY.out];exact HE.out) HB5.out
   ·have HE:=hid (HEX.out.trans ((if_neg (by decide)).trans ((if_neg hdv).trans (if_neg hcl))))
    rw [hkd.out] at HE;have r0:=CX HK25.out 0 (.int .i64 lb.l.kind) rfl;rw [hkd.out] at r0;have r1:=CX HK25.out 1 (.slice lb.A lb.l.vis.length lb.ca) rfl;have r5:=CX HK25.out 5 (.int .i64 lb.l.miles) rfl
    have hbt1:=(show Tryz.prog.built 34 [(0,.int .i64 (k:Int)),(3,.slice lb.A lb.l.vis.length lb.ca)]=some #[.int .i64 (k:Int),.int .i64 0,.slice none 0 0,.slice lb.A lb.l.vis.length lb.ca] by kernel_rfl)
    have hbt2:=(show Tryz.prog.built 39 [(3,.int .i64 gv),(4,.int .i64 (lb.l.miles+gm))]=some #[.bool false,.int .i64 0,.slice none 0 0,.int .i64 gv,.int .i64 (lb.l.miles+gm)] by kernel_rfl)
    have HPR:=hid (HPRI.out gv (lb.l.miles+gm) w5 HB5.out (by omega) (by omega));have HSC:=hid (scoreP_ok (x:=m.v) HTT.out HTX.out (kind:=(k:Int)) (vs:=lb.l.vis) hvl (fin:=gv) (miles:=lb.l.miles+gm) ⟨by omega,by omega⟩ (by omega));clear HEX HPRI;go_wp2_with (refine lr HK15.out Tryz.underlying30 ?_)
    refine HPR.out.mono ?_;rintro e w6 ⟨rfl,hb6⟩;have HB6:=hid (bL HB5.out hb6);obtain ⟨SC,hSC⟩:∃ SC,SC=sP m.v ty.t (k:Int) lb.l.vis gv (lb.l.miles+gm):=⟨_,rfl⟩
    rw [<- hSC] at HSC HE;rw [<- hSC];clear hSC hb6 HPR hdv hcl t8 t9 r0 r1 r3 r4 r5 hbt1 hbt2 HK15 HK25 HQ5 HB5;obtain ⟨_,p9⟩:=Na w6 (.cells #[.int .i64 0,.int .i64 0,.int .i64 0,.int .i64 0] 41);obtain ⟨q9,b9⟩:=nS w6 #[.int .i64 0,.int .i64 0,.int .i64 0,.int .i64 0] (sR SC) 41;go_upto_region 8 with (refine sw (sR SC) p9 ?_)
    (try simp only [Act.put]);generalize (w6.alloc (.cells #[.int .i64 0,.int .i64 0,.int .i64 0,.int .i64 0] 41)).setRow w6.heap.size (sR SC)=w7 at *;have HQ7:=hid q9;have HB7:=hid (bL HB6.out b9);obtain ⟨h11,hh11⟩:∃ h11,h11=w6.heap.size:=⟨_,rfl⟩
    rw [<- hh11] at HQ7;rw [<- hh11];have HWT:=hid (pw SC w7 HSC.out);clear hh11 p9 q9 b9;go_wp2_with (refine lr HQ7.out Tryz.underlying41 ?_)
    refine HWT.out.mono ?_;rintro e w8 ⟨rfl,hb8⟩;have HB8:=hid (bL HB7.out hb8);clear hb8 HWT;go_wp2_with fail;go_ret3;exact CloE.yes (by rw [<- HTY.out];exact HE.out) HB8.out
 ·have HE:=hid (HEX.out.trans (if_pos he))
  have heb:=ib he;have heb2:(ge != 0)=true:=by simpa using he
  clear he HEX;go_wp2_with fail;go_ret3;exact CloE.no (by rw [<- HTY.out];exact HE.out) HB5.out
def LG (m:IM) (k:Nat) (t:TV) (a:Lb):Prop:=Bj m.v t (k:Int) a.l/\a.l.vis.length<=8/\∀ v ∈ a.l.vis,0<=v.1/\v.1<(m.ords.length:Int)
def EndE (m:IM) (k s:Nat) (t:TV) (w:World) (e:Ending) (w':World):Prop:=∃ (A:Option Addr) (c:Nat) (ms:List Lb) (z:Int),e=.returned (.tuple #[.slice A ms.length c,.int .i64 z])/\Ag w' w.heap.size A c ms/\(∀ a ∈ ms,LG m k t a) /\
 (z=0->(AP m.v s->ms.map (·.l)=endsL m.v t (SL m.v t (k:Int) s) (sF m.v s (Ad m.v s) []))/\(¬ AP m.v s->ms=[]))/\(z=0∨z=4)/\ms.length<=10000000/\Below w.heap.size w w'
theorem Wb {P:Program} {ops:Array Oper} {rest:List Oper} {o:Oper} {a:Act} {w:World} {Q:Exit->Act->World->Prop} (hg:o.guard=none) (t:TypeId) (parts:Array (Nat × Operand)) (ho:o.op=.build t parts) (cs:Array Value)
  (hb:P.built t (parts.map fun (i,x)=>(i,a.eval x)).toList=some cs) (h:wpList P ops Q rest (a.put o.dst (.agg cs)) w):wpList P ops Q (o :: rest) a w :=
 wpList_build hg t parts ho (by rw [hb];rfl) (by rw [hb];exact h)
theorem B2 {B:Nat} {w w1 w2:World} (h:Below B w w1) (h2:Below B w1 w2):Below B w w2:=h.trans h2
theorem hss3_of {w w':World} {Bs:Nat} {A:Option Addr} {c:Nat} {ms:List SM} (h:Bl w Bs A c ms) (hb:Below w.heap.size w w'):Bl w' Bs A c ms:=h.below hb
theorem lends_any (m:IM) (k s:Nat) (w:World) (hm:IA w m) (hok:IK m.v) (hml:m.ords.length<=3) (hT:Tb w) (hk:k<m.types.length) (hs:s<2 ^ m.ords.length) (hs0:0<s) :
  Calls Tryz.prog 14 #[iA m,.int .i64 k,.int .i64 s] w (EndE m k s m.types[k].t w):=by
 obtain ⟨n4,p4⟩:=Na w (.cells (iQ m) 30);have HN4:=hid n4;have HK:=hid p4;have HM:=hid (fun w' (hb:Below w.heap.size w w')=>hm.below hb);have HT:=hid (fun w' (hb:Below w.heap.size w w')=>hT.below hb);have HOK:=hid hok;have htl:=hm.tl;have hk2:(k:Int)<(m.types.length:Int):=by omega
 have hk0:¬ (k:Int)<0:=by omega
 have HALL:=hid (fun w' (hb:Below w.heap.size w w')=>sall_any m s w' (hm.below hb) hml hs hs0);have HSTA:=hid (fun w' (hb:Below w.heap.size w w')=>lstart_any m k s w' (hm.below hb) hok hml hk hs hs0);have HTT:=hid (hok.types _ (Ti (List.getElem_mem hk)));have HTX:=hid (hok.typesX _ (Ti (List.getElem_mem hk)))
 have HSO:=hid (start_ok hok (by rw [oL];exact hs) (hok.types _ (Ti (List.getElem_mem hk))) (k:Int));have HSL:=hid (show (SL m.v m.types[k].t (k:Int) s).length<=2 by unfold SL;split;simp [WL];simp)
 have HCLO:=hid (fun (a:Lb) w' (hb:Below w.heap.size w w') (ha:LG m k m.types[k].t a) (hat:Ah w' a)=>lclose_any m k a w' (hm.below hb) hok hml (hT.below hb) hk ha.1 hat ha.2.1 ha.2.2)
 have HADV:=hid (fun (gl:Nat) (L:List Lb) (f:Nat) (v:Int × Bool) w' (hb:Below w.heap.size w w') (hq:LT w' gl gl m L f) (hgl:gl<=w'.heap.size) (hwg:w.heap.size<=gl) (hf:f<=L.length) (hlen:L.length<=10000) (hL:∀ a ∈ L.drop f,Bj m.v m.types[k].t (k:Int) a.l/\a.l.vis.length<=7) (hv:0<=v.1/\v.1<(m.ords.length:Int))=>ladvance_any m k gl gl L f v w w' hm hok hml hT hk hb hwg hq (Nat.le_refl _) hgl hf hlen hL hv)
 unfold maxLen at htl;clear hm hok hT n4 p4;go_enter Tryz.func14,Tryz.ntmps14;(try simp only [Bm]);go_upto_region 1 with fail;rw [iq];generalize w.alloc (.cells (iQ m) 30)=wa at *;obtain ⟨h1,hh1⟩:∃ h1,h1=w.heap.size:=⟨_,rfl⟩
 rw [<- hh1] at HK;rw [<- hh1];clear hh1;have q2:=CX HK.out 2 (.slice m.tA m.types.length m.tc) rfl;go_upto_region 3 with fail;go_wp2_with (refine lr HK.out Tryz.underlying30 ?_)
 refine (HALL.out wa HN4.out).mono ?_;rintro e w2 ⟨SA,sc,ss,z,rfl,hss,hsl,hsq,hz,hb2⟩;have HB2:=hid (bL HN4.out hb2);have HK2:=hid (rK HK.out hb2);have HSS:=hid hss;have HSQ:=hid hsq;clear q2 hb2 hss hsq HALL HK HN4;rcases hz with rfl | rfl
 ·obtain ⟨hsq1,hsq2⟩:=HSQ.out rfl
  have HSQ1:=hid hsq1;have HSQ2:=hid hsq2;clear hsq1 hsq2 HSQ;go_wp2_with (refine lr HK2.out Tryz.underlying30 ?_)
  refine (HSTA.out w2 HB2.out).mono ?_;rintro e w3 ⟨TA,tc,ts,rfl,hts,hteq,hb3⟩;have HB3:=hid (bL HB2.out hb3);have HK3:=hid (rK HK2.out hb3);have HSS3:=hid (hss3_of HSS.out hb3);have HTS:=hid hts;have HTEQ:=hid hteq;have HSZ3:=hid HB3.out.size;have hsl2:=OR.cap HSS3.out.row;unfold maxLen at hsl2
  have htsl:ts.length<=2:=by have h:=congrArg List.length hteq;rw [List.length_map] at h;rw [h];exact HSL.out
  have HSRNG:=hid (show ∀ q ∈ ss,q.l.length<=6/\∀ v ∈ q.l,0<=v.1/\v.1<(m.ords.length:Int) from fun q hq=>by
   by_cases ha:AP m.v s
   ·have hmem:q.l ∈ sF m.v s (Ad m.v s) []:=by rw [<- HSQ1.out ha];exact List.mem_map.2 ⟨q,hq,rfl⟩
    obtain ⟨h1,h2⟩:=me.1 hmem;exact ⟨by rw [h1];exact totV_le HOK.out s,fun v hv=>by have:=h2.rng v hv;rw [oL] at this;exact this⟩
   ·rw [HSQ2.out ha] at hq
    simp at hq)
  clear hb3 hts hteq HSTA HSS HB2 HK2;go_wp2_with fail
  go_loopw [11,45] (fun o j wr=>∃ (i:Nat) (A:Option Addr) (c:Nat) (os:List Lb),i<=ss.length/\j=.int .i64 i/\o=.slice A os.length c/\Ag wr w.heap.size A c os/\os.map (·.l)=((ss.take i).map (·.l)).foldl (ES m.v m.types[k].t (SL m.v m.types[k].t (k:Int) s)) []/\(∀ a ∈ os,LG m k m.types[k].t a)/\os.length<=128*i/\Below w3.heap.size w3 wr) (fun _ j _=>ss.length - (intOf j).toNat)
  case atStart=>exact ⟨0,none,0,[],Nat.zero_le _,rfl,rfl,Ag.nil _ _,rfl,fun a ha=>absurd ha (by simp),Nat.zero_le _,Below.refl _ _⟩
  case round =>
   obtain ⟨i,A,c,os,hi,rfl,rfl,hos,heq,hgd,hol,hbel⟩:=hrel;have HOS:=hid hos;have HEQ:=hid heq;have HGD:=hid hgd;have HBL:=hid hbel;have HB:=hid (bL HB3.out hbel);have HSSR:=hid (hss3_of HSS3.out hbel);clear hos heq hgd hbel;by_cases hlt:i<ss.length
   ·have hlt1:(i:Int)<(ss.length:Int):=by omega
    obtain ⟨g1,o1,hA1,hg1,hx1⟩:=eP seqC_len (by decide) (OR.cells HSSR.out.row) (by omega);have x0:=hx1 i hlt 0 _ rfl;have HRNG:=hid (HSRNG.out _ (List.getElem_mem hlt));have HVO:=hid (HSSR.out.each _ (List.getElem_mem hlt));have HTKE:=hid (Ts hlt);rw [Nat.mul_one,Nat.add_zero] at x0;rw [hA1];clear hx1 hA1;obtain ⟨q,hq⟩:∃ q,q=ss[i]:=⟨_,rfl⟩
    rw [<- hq] at x0 HRNG HVO HTKE;clear hq;unfold SM.val at x0;have HKR:=hid (rK HK3.out HBL.out);go_upto_region 12 with (first | (refine lr HKR.out Tryz.underlying30 ?_) | (refine Wb rfl 113 _ rfl (Bk m none 0 0 0) (by kernel_rfl) ?_))
    obtain ⟨nl,pl⟩:=Na wr (.cells (Bk m none 0 0 0) 113);have hwl:wr.alloc (.cells (Bk m none 0 0 0) 113)=wr.alloc (.cells (Bk m none 0 0 0) 113):=rfl;revert hwl
    generalize hwlx:wr.alloc (.cells (Bk m none 0 0 0) 113)=wl at *;intro _;clear hwlx;obtain ⟨gl,hgl⟩:∃ gl,gl=wr.heap.size:=⟨_,rfl⟩
    rw [<- hgl] at pl;rw [<- hgl];have HNLW:=hid nl;have HGW:=hid (show w.heap.size<=gl by rw [hgl];exact HB.out.size);have HGLT:=hid (lh pl);have HBW:=hid (bL HB.out nl);have HB3W:=hid (bL HBL.out nl);have HKW:=hid (rK HKR.out nl);have HOW:=hid (HOS.out.below nl);have HGLE:=hid hgl;clear hgl nl
    have HPU:=hid (qpush_any m gl gl w2.heap.size [] ts 0 TA tc wl ⟨none,0,pl,Ag.nil _ _⟩ (HTS.out.below HB3W.out) (Nat.le_refl _) (Nat.le_of_lt HGLT.out) (by simp;omega));clear pl;go_wp2_with fail;refine HPU.out.mono ?_;rintro e w5 ⟨rfl,hq5,hf5⟩;have HQ5:=hid hq5;have HF5:=hid hf5;have HG5:=hid (Nat.lt_of_lt_of_le HGLT.out hf5.kt.size);clear hq5 hf5 HPU
    have hql:q.l.length<=6:=HRNG.out.1;go_wp2_with fail;generalize wr=wo at *;go_loopw [59] (fun j wx=>∃ (b:Nat) (L:List Lb) (f:Nat),b<=q.l.length/\j=.int .i64 b/\LT wx gl gl m L f/\f<=L.length/\(L.drop f).map (·.l)=li m.v m.types[k].t (SL m.v m.types[k].t (k:Int) s) (q.l.take b)/\L.length<=2*3 ^ b/\FR gl lts wl wx/\gl<wx.heap.size) (fun j _=>q.l.length - (intOf j).toNat)
    case atStart=>exact ⟨0,[] ++ ts,0,Nat.zero_le _,rfl,HQ5.out,Nat.zero_le _,by simpa [li] using HTEQ.out,by simp;omega,HF5.out,HG5.out⟩
    case round =>
     obtain ⟨b,L,f,hb,rfl,hq,hf,heq,hll,hfr,hgs⟩:=hrel;have HQ:=hid hq;have HE:=hid heq;have HF:=hid hfr;have HGS:=hid hgs;clear hq heq hfr hgs HQ5 HF5 HG5;by_cases hlb:b<q.l.length
     ·have hlb1:(b:Int)<(q.l.length:Int):=by omega
      have HVX:=hid (OR.keptT (OR.below HVO.out (show Below wo.heap.size wo wl from HNLW.out)) HF.out.kt (by decide));obtain ⟨g9,o9,hA9,hg9,hx9⟩:=eP vC (by decide) (OR.cells HVX.out) (by omega);have x5:=hx9 b hlb 0 _ rfl;have x6:=hx9 b hlb 1 _ rfl;rw [Nat.add_zero] at x5;have HVR:=hid (HRNG.out.2 _ (List.getElem_mem hlb));have HTK:=hid (Ts hlb)
      have HVR2:=hid (fun v (h:v ∈ q.l.take b)=>HRNG.out.2 v (List.mem_of_mem_take h));rw [hA9];clear hx9 hA9;obtain ⟨y,hy⟩:∃ y,y=q.l[b]:=⟨_,rfl⟩
      rw [<- hy] at x5 x6 HTK HVR;clear hy;obtain ⟨n7,p7⟩:=Na wr (.cells #[.int .i64 y.1,.bool y.2] 92);go_upto_region 16 with fail;generalize wr.alloc (.cells #[.int .i64 y.1,.bool y.2] 92)=w7 at *;have HF7:=hid (HF.out.trans (FR.below (ts:=lts) n7 (Nat.le_of_lt HGS.out)));have HQ7:=hid (HQ.out.below n7);have HP7:=hid p7;have HGS7:=hid (Nat.lt_of_lt_of_le HGS.out n7.size)
      have HB7:=hid (HBW.out.trans (HF7.out.bel.mono HGW.out));obtain ⟨g7,hg7⟩:∃ g7,g7=wr.heap.size:=⟨_,rfl⟩
      rw [<- hg7] at HP7;rw [<- hg7];clear n7 p7 hg7 x5 x6 HF HQ HVX;have hp3:3 ^ b<=3 ^ 6:=Nat.pow_le_pow_right (by decide) (by omega)
      have HAD:=hid (HADV.out gl L f y w7 HB7.out HQ7.out (Nat.le_of_lt HGS7.out) HGW.out hf (by omega) (fun a ha=>by
       have hmem:a.l ∈ li m.v m.types[k].t (SL m.v m.types[k].t (k:Int) s) (q.l.take b):=by rw [<- HE.out];exact List.mem_map.2 ⟨a,ha,rfl⟩
       obtain ⟨h1,h2⟩:=Lk HOK.out HTT.out HSO.out (q.l.take b) (fun v hv=>by rw [oL];exact HVR2.out v hv) a.l hmem;exact ⟨h1,by rw [h2,List.length_take];omega⟩) HVR.out)
      go_wp2_with (refine lr HP7.out Tryz.underlying92 ?_)
      refine HAD.out.mono ?_;rintro e w8 ⟨rfl,L2,hq8,heq8,hl8,hf8⟩;have HQ8:=hid hq8;have HE8:=hid heq8;have HF8:=hid (HF7.out.trans hf8);have HG8:=hid (Nat.lt_of_lt_of_le HGS7.out hf8.kt.size);clear hq8 heq8 hf8 HAD;go_wp2_with fail;go_roundw
      case rel=>exact ⟨b+1,L ++ L2,L.length,by omega,by go_num,HQ8.out,by rw [List.length_append];omega,by rw [List.drop_left,HE8.out,HE.out,HTK.out,lI],by rw [List.length_append,Nat.pow_succ];omega,HF8.out,HG8.out⟩
      case measure=>simp [intOf];omega
     ·have hlb1:¬ (b:Int)<(q.l.length:Int):=by omega
      have hbl:b=q.l.length:=by omega
      have hp3:3 ^ b<=3 ^ 6:=Nat.pow_le_pow_right (by decide) (by omega);have HLV:=hid (show (L.drop f).map (·.l)=li m.v m.types[k].t (SL m.v m.types[k].t (k:Int) s) q.l by rw [HE.out,List.take_of_length_le (by omega)]);have hll2:L.length<=10000:=by omega
      have hln:L.length - f<=128:=by
       have h1:=congrArg List.length HLV.out;rw [List.length_map,List.length_drop] at h1;have h2:=lines_len m.v m.types[k].t (SL m.v m.types[k].t (k:Int) s) q.l;have h3:2 ^ q.l.length<=2 ^ 6:=Nat.pow_le_pow_right (by decide) hql;have h4:=Nat.mul_le_mul HSL.out h3;omega
      have HLG:=hid (show ∀ a ∈ L.drop f,LG m k m.types[k].t a from fun a ha=>by
       have hmem:a.l ∈ li m.v m.types[k].t (SL m.v m.types[k].t (k:Int) s) q.l:=by rw [<- HLV.out];exact List.mem_map.2 ⟨a,ha,rfl⟩
       obtain ⟨h1,h2⟩:=Lk HOK.out HTT.out HSO.out q.l (fun v hv=>by rw [oL];exact HRNG.out.2 v hv) a.l hmem;exact ⟨h1,by rw [h2];omega,by rw [h2];exact HRNG.out.2⟩)
      have HBO:=hid (show Below wo.heap.size wo wr from B2 HNLW.out (HF.out.bel.mono (Nat.le_of_eq HGLE.out.symm)));have HOX:=hid (HOS.out.below HBO.out);have HB3X:=hid (bL HBL.out HBO.out);clear hbl hp3 HE HF HOW hll;obtain ⟨N,hN⟩:∃ N,N=L.length - f:=⟨_,rfl⟩
      have hN2:f+N=L.length:=by omega
      rw [<- hN] at hln;clear hN;go_wp2_with fail;generalize wr=wp at *
      go_loopg [11] N (fun gk o wx=>∃ (d:Nat) (A3:Option Addr) (c3:Nat) (os3:List Lb),d<=N/\gk+d=N/\o=.slice A3 os3.length c3/\LT wx gl gl m L (f+d)/\Ag wx w.heap.size A3 c3 os3/\os3.map (·.l)=(((L.drop f).map (·.l)).take d).foldl (eS m.v m.types[k].t) (os.map (·.l))/\(∀ a ∈ os3,LG m k m.types[k].t a)/\os3.length<=os.length+d/\Below wo.heap.size wo wx/\gl<wx.heap.size)
      case atStart=>exact ⟨0,A,c,os,Nat.zero_le _,rfl,rfl,HQ.out,HOX.out,rfl,HGD.out,Nat.le_refl _,HBO.out,HGS.out⟩
      case round =>
       obtain ⟨d,A3,c3,os3,hd,hgk,rfl,hq,ho3,he3,hg3,hl3,hb3,hgs⟩:=hrel;clear HQ HOX HBO HGS HB3X;have HQ:=hid hq;have HO3:=hid ho3;have HE3:=hid he3;have HG3:=hid hg3;have HBO:=hid hb3;have HGS:=hid hgs;have HSZ:=hid (qsize_any m gl gl L (f+d) wr hq (by omega) (by omega));obtain ⟨r,hr⟩:∃ r,r=L.length - (f+d):=⟨_,rfl⟩
       rw [<- hr] at HSZ;have hr2:r+d=N:=by omega
       have HRE:=hid hr;clear hq ho3 he3 hg3 hb3 hgs hr;go_wp2_with fail;refine HSZ.out.mono ?_;rintro e w6 ⟨rfl,hb6⟩;have HQ6:=hid (HQ.out.below hb6);have HO6:=hid (HO3.out.below hb6);have HB6:=hid (bL HBO.out hb6);have HG6:=hid (Nat.lt_of_lt_of_le HGS.out hb6.size);clear HQ HO3 HBO HGS hb6 HSZ;by_cases hrp:0<r
       ·have hr1:(0:Int)<(r:Int):=by omega
        have hfd:f+d<L.length:=by omega
        have hd2:d<(L.drop f).length:=by rw [List.length_drop];omega
        have HPOP:=hid (qpop_any m gl gl L (f+d) w6 HQ6.out (Nat.le_refl _) (Nat.le_of_lt HG6.out) hfd (by omega));have hget:(L.drop f)[d]=L[f+d]:=List.getElem_drop
        have HTK:=hid (show ((L.drop f).map (·.l)).take (d+1)=((L.drop f).map (·.l)).take d ++ [L[f+d].l] by
         rw [Ts (by rw [List.length_map];exact hd2),List.getElem_map,hget])
        have HLU:=hid (HLG.out L[f+d] (List.mem_drop_iff_getElem.2 ⟨d,by omega,rfl⟩));have HMU:=hid (show L[f+d] ∈ L from List.getElem_mem hfd);obtain ⟨u,hu⟩:∃ u,u=L[f+d]:=⟨_,rfl⟩
        rw [<- hu] at HPOP HTK HLU HMU;clear hget hu;go_wp2_with fail;refine HPOP.out.mono ?_;rintro e w7 ⟨rfl,hq7,hf7,hbt7⟩;have HQ7:=hid hq7;have HO7:=hid (by obtain ⟨Ar,nr,cr,fr,hrow⟩:=HQ6.out.rowR;exact HO6.out.but hbt7 hrow);have HB7:=hid (B2 HB6.out (hf7.bel.mono (Nat.le_of_eq HGLE.out.symm)));have HG7:=hid (Nat.lt_of_lt_of_le HG6.out hf7.kt.size)
        obtain ⟨n8,p8⟩:=Na w7 (.cells LZ 65);have HP7:=hid p8;have hb8:Below w7.heap.size w7 ((w7.alloc (.cells LZ 65)).setRow w7.heap.size u.cells.toArray):=below_setRow n8 (Nat.le_refl _) _;have HP8:=hid (show ((w7.alloc (.cells LZ 65)).setRow w7.heap.size u.cells.toArray).heap[w7.heap.size]? = some (.cells u.cells.toArray 65) from setRow_heap _ _ _ _ _ _ p8);have HB8:=hid hb8
        clear hq7 hf7 hbt7 n8 p8 hb8 HPOP;go_upto_region 20 with (refine sw u.cells.toArray HP7.out ?_)
        generalize (w7.alloc (.cells LZ 65)).setRow w7.heap.size u.cells.toArray=w8 at *;obtain ⟨g8,hg8⟩:∃ g8,g8=w7.heap.size:=⟨_,rfl⟩
        rw [<- hg8] at HP8;rw [<- hg8];have HQ8:=hid (HQ7.out.below HB8.out);have HO8:=hid (HO7.out.below HB8.out);have HBO8:=hid (bL HB7.out HB8.out);have HG8:=hid (Nat.lt_of_lt_of_le HG7.out HB8.out.size);clear hg8 HP7 HQ7 HO7 HB7 HB8 HG7 HQ6 HO6 HB6 HG6;have HW8:=hid (bL HB.out HBO8.out);have HK8:=hid (rK HKR.out HBO8.out)
        have HCL:=hid (HCLO.out u w8 HW8.out HLU.out (HQ8.out.lbat u HMU.out));go_wp2_with (first | (refine lr HK8.out Tryz.underlying30 ?_) | (refine lr HP8.out Tryz.underlying65 ?_))
        refine HCL.out.mono ?_;rintro e w9 ⟨rfl,hb9⟩;have HQ9:=hid (HQ8.out.below hb9);have HO9:=hid (HO8.out.below hb9);have HBO9:=hid (bL HBO8.out hb9);have HG9:=hid (Nat.lt_of_lt_of_le HG8.out hb9.size);have HP9:=hid (rK HP8.out hb9);have HW9:=hid (bL HW8.out hb9);clear hb9 HQ8 HO8 HBO8 HG8 HP8 HW8 HK8 HCL
        have HST:=hid (show (((L.drop f).map (·.l)).take (d+1)).foldl (eS m.v m.types[k].t) (os.map (·.l))=eS m.v m.types[k].t (os3.map (·.l)) u.l by rw [HTK.out,List.foldl_append,HE3.out];rfl);rcases hcl:cL m.v m.types[k].t u.l with _ | ⟨ce,cn⟩
        ·have HST2:=hid (show eS m.v m.types[k].t (os3.map (·.l)) u.l=os3.map (·.l) by unfold eS;rw [hcl];rfl)
         clear hcl;unfold cloA;go_wp2_with fail;go_roundg (gk - 1)
         case measure=>omega
         case rel=>exact ⟨d+1,A3,c3,os3,by omega,by omega,rfl,HQ9.out,HO9.out,by rw [HST.out,HST2.out],HG3.out,by omega,HBO9.out,HG9.out⟩
        ·have HST2:=hid (show eS m.v m.types[k].t (os3.map (·.l)) u.l=KL (os3.map (·.l)) u.l by unfold eS;rw [hcl];rfl)
         clear hcl;have HKP:=hid (lkeep_any os3 u w.heap.size A3 c3 (dV m.v) w9 HO9.out (HQ9.out.lbat u HMU.out) HW9.out.size (by omega) (fun a ha=>(HG3.out a ha).1.load.len) HLU.out.1.load.len);unfold cloA;go_wp2_with (refine lr HP9.out Tryz.underlying65 ?_)
         refine HKP.out.mono ?_;rintro e w10 ⟨A4,c4,os4,rfl,ho4,he4,hm4,hb10⟩;have HO10:=hid ho4;have HE10:=hid he4;have HM10:=hid hm4;have HQ10:=hid (HQ9.out.below hb10);have HBO10:=hid (bL HBO9.out hb10);have HG10:=hid (Nat.lt_of_lt_of_le HG9.out hb10.size)
         have hl4:os4.length<=os3.length+1:=by have h1:=congrArg List.length he4;rw [List.length_map] at h1;have h2:=keepLb_len (os3.map (·.l)) u.l;rw [List.length_map] at h2;omega
         clear ho4 he4 hm4 hb10 HQ9 HO9 HBO9 HG9 HP9 HW9 HKP;go_wp2_with fail;go_roundg (gk - 1)
         case measure=>omega
         case rel=>exact ⟨d+1,A4,c4,os4,by omega,by omega,rfl,HQ10.out,HO10.out,by rw [HST.out,HST2.out,HE10.out],fun a ha=>(HM10.out a ha).elim (HG3.out a) (fun e=>e ▸ HLU.out),by omega,HBO10.out,HG10.out⟩
       ·have hr1:¬ (0:Int)<(r:Int):=by omega
        have hdn:d=N:=by omega
        have HSEQ:=hid (show os3.map (·.l)=ES m.v m.types[k].t (SL m.v m.types[k].t (k:Int) s) (os.map (·.l)) q.l by
         unfold ES;rw [HE3.out,HLV.out,List.take_of_length_le (by rw [<- HLV.out,List.length_map,List.length_drop];omega)])
        have HB36:=hid (bL HBL.out HB6.out);clear hdn;go_wp2_with fail;go_roundw
        case rel=>exact ⟨i+1,A3,c3,os3,by omega,by go_num,rfl,HO6.out,by rw [HSEQ.out,HEQ.out,HTKE.out,List.map_append,List.foldl_append];rfl,HG3.out,by omega,HB36.out⟩
        case measure=>simp [intOf];omega
   ·have hlt1:¬ (i:Int)<(ss.length:Int):=by omega
    have hin:i=ss.length:=by omega
    have HFIN:=hid (show EndE m k s m.types[k].t w (.returned (.tuple #[.slice A os.length c,.int .i64 0])) wr from ⟨A,c,os,0,rfl,HOS.out,HGD.out,fun _=>⟨fun ha=>by
      rw [HEQ.out,hin,List.take_of_length_le (Nat.le_refl _),HSQ1.out ha];rfl,fun ha=>by
      have h1:=HEQ.out;rw [HSQ2.out ha] at h1;simpa using h1⟩,.inl rfl,by omega,HB.out⟩)
    clear hin;go_wp2_with fail;go_ret2;exact HFIN.out
 ·clear hsl
  have HR:=hid (show EndE m k s m.types[k].t w (.returned (.tuple #[.slice none 0 0,.int .i64 4])) w2 from ⟨none,0,[],4,rfl,Ag.nil _ _,fun a ha=>absurd ha (by simp),fun h=>absurd h (by decide),.inr rfl,by simp,HB2.out⟩);go_wp2_with fail;go_ret2;exact HR.out
end Go.Proofs.YtjcekdiocliddaaGreatDoor

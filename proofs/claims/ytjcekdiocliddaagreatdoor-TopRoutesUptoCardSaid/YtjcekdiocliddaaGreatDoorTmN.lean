/- price.Route. (Printed by wip/tk/mkTmN.py.) -/
import Derived.Test.YtjcekdiocliddaaGreatDoorG77
import Derived.Test.YtjcekdiocliddaaGreatDoorG78
import Derived.Maps.OwnOps
import Derived.Maps.Views
namespace Go.Proofs.YtjcekdiocliddaaGreatDoor
open Lib (hid)
open Go.RowKit Num Txt Pf Tk Go.Maps
set_option maxHeartbeats 32000000
set_option maxRecDepth 100000
set_option linter.unusedVariables false
attribute [local go_sem] BS Bg Bt Bm Be Ba
def nowOf (x:IV) (i:Int):Int:=match OA x i with
 |some o=>o.now
 |none=>-1
def lastOf (x:IV) (i:Int):Int:=match OA x i with
 |some o=>o.last
 |none=>-1
def newV (vs:List (Int × Bool)) (k:Nat):Bool:=!Ai (vs.take k) (vs.getD k (0,false)).1
def cK (f:Int->Bool) (vs:List (Int × Bool)):Nat->Int
 |0=>0
 |k+1=>cK f vs k+if newV vs k && f (vs.getD k (0,false)).1 then 1 else 0
theorem CK (f:Int->Bool) (vs:List (Int × Bool)):∀ k:Nat,0<=cK f vs k/\cK f vs k<=(k:Int)
 |0=>by simp [cK]
 |k+1=>by
  have:=CK f vs k;rw [cK];split <;> omega
theorem cntK_yes {f:Int->Bool} {vs:List (Int × Bool)} {k:Nat} (h:newV vs k=true) (h2:f (vs.getD k (0,false)).1=true):cK f vs (k+1)=cK f vs k+1:=by rw [cK,h,h2];rfl
theorem cntK_no {f:Int->Bool} {vs:List (Int × Bool)} {k:Nat} (h2:f (vs.getD k (0,false)).1=false):cK f vs (k+1)=cK f vs k:=by rw [cK,h2,Bool.and_false];simp
theorem cntK_old {f:Int->Bool} {vs:List (Int × Bool)} {k:Nat} (h:newV vs k=false):cK f vs (k+1)=cK f vs k:=by rw [cK,h,Bool.false_and];simp
structure Sc where
 cost:Int
 moved:Int
 other:Int
 work:Int
def sR (s:Sc):Array Value:=#[.int .i64 s.cost,.int .i64 s.moved,.int .i64 s.other,.int .i64 s.work]
def MF (x:IV) (kind:Int) (i:Int):Bool:=fB (nowOf x i) kind
def oT (x:IV) (kind:Int) (i:Int):Bool:=fB (lastOf x i) kind
def sP (x:IV) (t:TV) (kind:Int) (vs:List (Int × Bool)) (fin miles:Int):Sc :=
 ⟨t.fixed+t.mile*miles+t.tick*(fin - t.opn),cK (MF x kind) vs vs.length,cK (oT x kind) vs vs.length,(fin - t.opn).tdiv 64*(fin - t.opn).tdiv 64⟩
def occ (vs:List (Int × Bool)) (o:Int):Nat:=vs.countP (iO o)
theorem occ_snoc (vs:List (Int × Bool)) (v:Int × Bool) (o:Int):occ (vs ++ [v]) o=occ vs o+if iO o v then 1 else 0:=by
 unfold occ;rw [List.countP_append,List.countP_singleton]
theorem occ_pos {vs:List (Int × Bool)} {o:Int}:0<occ vs o↔Ai vs o=true:=by
 unfold occ Ai;rw [List.countP_pos_iff,List.any_eq_true]
theorem occ_le (vs:List (Int × Bool)) (o:Int):occ vs o<=vs.length:=List.countP_le_length
def Bp (D:DataW Unit) (vs:List (Int × Bool)):Prop:=∀ o:Int,D.atKey (.int .i64 o) (.lit (.int .i64 0))=.lit (.int .i64 (occ vs o))
theorem seen0:Bp (.map []) []:=fun o=>rfl
theorem Bp.step {D:DataW Unit} {vs:List (Int × Bool)} {u0:Int} {u1:Bool} (h:Bp D vs) (hD:IsMap D) {c:Int} (hc:c=(occ vs u0:Int)+1):Bp (D.put (.int .i64 u0) (.lit (.int .i64 c))) (vs ++ [(u0,u1)]):=by
 intro o;rw [occ_snoc];by_cases e:o=u0
 ·subst e
  rw [atKey_put_same (k:=.int .i64 o) hD trivial,show iO o (o,u1)=true by simp [iO],hc];rfl
 ·rw [atKey_put_other (fun h2=>e (by injection h2)),h o,show iO o (u0,u1)=false by unfold iO;simp only;exact beq_eq_false_iff_ne.2 fun h2=>e h2.symm]
  rfl
abbrev ST (w:World) (b n:Nat) (D:DataW Unit):Prop:=w.ownsMap Tryz.prog 3 (plainElem Tryz.prog 3) b n D
theorem ST.heap {w w':World} {b n:Nat} {D:DataW Unit} (h:ST w b n D) (e:w'.heap[b]? = w.heap[b]?):ST w' b n D:=by
 obtain ⟨es,clock,h1,h2⟩:=h;exact ⟨es,clock,by rw [e];exact h1,h2⟩
theorem ST.below {w w':World} {b n:Nat} {D:DataW Unit} (h:ST w b n D) (hb:Below w.heap.size w w'):ST w' b n D:=h.heap (hb.block b (World.ownsMap.lt h))
theorem ST.ne {w:World} {b n:Nat} {D:DataW Unit} (h:ST w b n D) {g:Nat} {l:Array Value} {t:TypeId} {z:Nat × Nat} (hg:w.heap[g]? = some (.cells l t z)):g≠b:=by
 obtain ⟨es,clock,h1,_⟩:=h;intro e;rw [e,h1] at hg;injection hg with hg
 cases hg
theorem ST.isMap {w:World} {b n:Nat} {D:DataW Unit} (h:ST w b n D):IsMap D:=by
 obtain ⟨es,clock,_,_,_,e⟩:=h;exact ⟨_,e⟩
theorem newV_of {vs:List (Int × Bool)} {k:Nat} {v:Int × Bool} (h:vs.getD k (0,false)=v):newV vs k=!Ai (vs.take k) v.1:=by unfold newV;rw [h]
theorem setOther {w:World} {g j b:Nat} {v:Value} {o:Obj} (h:w.heap[b]? = some o) (hne:b≠g):(w.setCell ⟨g,j,none⟩ v).heap[b]? = some o:=by rw [Below.heap_setCell _ _ _ _ hne];exact h
theorem ST.set {w:World} {b n:Nat} {D:DataW Unit} (h:ST w b n D) {g j:Nat} {v:Value} (hne:b≠g):ST (w.setCell ⟨g,j,none⟩ v) b n D:=h.heap (Below.heap_setCell _ _ _ _ hne)
theorem Li:Keyed Tryz.prog 3:=int_keyed Tryz.underlying3
theorem zi (w:World):(zeroValue 3).run Tryz.prog w=.ok (.int .i64 0) w:=by kernel_rfl
theorem fits_wf {n:Int} (h:-1000000<=n/\n<=1000000):(Lit.int .i64 n).wf=true:=WalkArith.wf_i64 (by omega)
def ScoreE (v:Sc) (w:World) (e:Ending) (w':World):Prop:=e=.returned (.agg (sR v))/\Below w.heap.size w w'
theorem nowOf_in {m:IM} {k:Nat} (h:k<m.ords.length):nowOf m.v (k:Int)=m.ords[k].o.now:=by
 unfold nowOf;rw [show OA m.v (k:Int)=some m.ords[k].o from On (m:=m) (i:=(k:Int)) (by omega) (by simpa using h)]
theorem lastOf_in {m:IM} {k:Nat} (h:k<m.ords.length):lastOf m.v (k:Int)=m.ords[k].o.last:=by
 unfold lastOf;rw [show OA m.v (k:Int)=some m.ords[k].o from On (m:=m) (i:=(k:Int)) (by omega) (by simpa using h)]
theorem mul_bnd {a b A C:Int} (ha:0<=a/\a<=A) (hb:-C<=b/\b<=C) (hC:0<=C):-(A*C)<=a*b/\a*b<=A*C:=by
 have h1:a*b<=a*C:=Int.mul_le_mul_of_nonneg_left hb.2 ha.1;have h2:a*C<=A*C:=Int.mul_le_mul_of_nonneg_right ha.2 hC;have h3:a*(-C)<=a*b:=Int.mul_le_mul_of_nonneg_left hb.1 ha.1;have h4:a*(-C) = -(a*C):=Int.mul_neg a C;omega
theorem tdiv64 {a:Int} (h:-4096<=a/\a<=4096):-64<=a.tdiv 64/\a.tdiv 64<=64:=by
 rcases Int.le_total 0 a with h0 | h0
 ·rw [Int.tdiv_eq_ediv_of_nonneg h0]
  omega
 ·have e:a.tdiv 64 = -((-a).tdiv 64):=by rw [Int.neg_tdiv,Int.neg_neg]
  rw [e,Int.tdiv_eq_ediv_of_nonneg (by omega)];omega
theorem sq_bnd {a:Int} (h:-64<=a/\a<=64):0<=a*a/\a*a<=4096:=by
 rcases Int.le_total 0 a with h0 | h0
 ·have h1:a*a<=64*64:=Int.mul_le_mul h.2 h.2 h0 (by decide)
  have h2:0<=a*a:=Int.mul_nonneg h0 h0;omega
 ·have h1:(-a)*(-a)<=64*64:=Int.mul_le_mul (by omega) (by omega) (by omega) (by decide)
  have h2:0<=(-a)*(-a):=Int.mul_nonneg (by omega) (by omega);rw [Int.neg_mul_neg] at h1 h2;omega
theorem proute_any (m:IM) (r:RM) (A:Option Addr) (c:Nat) (s:SV) (w:World) (hm:IA w m) (hok:IK m.v) (hml:m.ords.length<=3) (hr:Rt w r) (hv8:r.r.vis.length<=8) (hv:∀ v ∈ r.r.vis,0<=v.1/\v.1<(m.ords.length:Int)) (hk0:0<=r.r.kind) (hkl:r.r.kind.toNat<m.types.length) (hfin:0<=s.fin/\s.fin<=4096) (hmi:0<=s.miles/\s.miles<=1000000) :
  Calls Tryz.prog 23 #[iA m,ro r,Az A c s] w (ScoreE (sP m.v m.types[r.r.kind.toNat].t r.r.kind r.r.vis s.fin s.miles) w):=by
 obtain ⟨k1,k2,k3,k4,k5⟩:=alloc4 w (.cells (iQ m) 30) (.cells (rR r) 34) (.cells (sQ A c s) 39) (.cells #[.int .i64 0,.int .i64 0,.int .i64 0,.int .i64 0] 41);have HB:=hid k5;have HK1:=hid k1;have HK2:=hid k2;have HK3:=hid k3;have HK4:=hid k4;have HO:=hid hm.ords;have hol:=hm.ol;have htl:=hm.tl;have HV:=hid hr.vis;have hvl:=hr.vl;have HRNG:=hid hv
 have hkl2:r.r.kind<(m.types.length:Int):=by omega
 have hto:=(hok.types _ (Ti (List.getElem_mem hkl)))
 have htx:=(hok.typesX _ (Ti (List.getElem_mem hkl)))
 have HTX:=hid (show ∀ (wz:World),Below w.heap.size w wz->∃ gt ot,m.tA=some ⟨gt,ot,none⟩/\gt<wz.heap.size/\∀ j v,(m.types[r.r.kind.toNat].cells)[j]? = some v->wz.cell? ⟨gt,ot+r.r.kind.toNat*14+j,none⟩=some v from fun wz hb=>by
  obtain ⟨g1,o1,hA1,hg1,hx1⟩:=eP Ty.cells_len (by decide) (hm.types.below hb) (by omega);exact ⟨g1,o1,hA1,hg1,fun j v h=>hx1 r.r.kind.toNat hkl j v h⟩)
 unfold maxLen at hol htl hvl;obtain ⟨t,ht⟩:∃ t,t=m.types[r.r.kind.toNat]:=⟨_,rfl⟩
 rw [<- ht] at HTX hto htx;rw [<- ht];have hopn:=hto.opn;have hcls:=hto.cls;have hfx:=htx.fixed;have hm1:=mul_bnd htx.mile (show -1000000<=s.miles/\s.miles<=1000000 by omega) (by decide);have hm2:=mul_bnd htx.tick (show -4096<=s.fin - t.t.opn/\s.fin - t.t.opn<=4096 by omega) (by decide);have hq:=tdiv64 (show -4096<=s.fin - t.t.opn/\s.fin - t.t.opn<=4096 by omega);have hsq:=sq_bnd hq
 have HSC:=hid (show sP m.v t.t r.r.kind r.r.vis s.fin s.miles=⟨t.t.fixed+t.t.mile*s.miles+t.t.tick*(s.fin - t.t.opn),cK (MF m.v r.r.kind) r.r.vis r.r.vis.length,cK (oT m.v r.r.kind) r.r.vis r.r.vis.length,(s.fin - t.t.opn).tdiv 64*(s.fin - t.t.opn).tdiv 64⟩ from rfl);clear hm hr k1 k2 k3 k4 k5 hok hv ht hto htx;have hmm:=@run_makeMap Tryz.prog;go_enter Tryz.func23,Tryz.ntmps23
 (try simp only [Bm]);go_upto_region 1 with fail
 rw [show (((w.alloc (.cells #[.slice m.pA m.places.length m.pc,.slice m.aA m.arcs.length m.ac,.slice m.tA m.types.length m.tc,.slice m.oA m.ords.length m.oc,.slice m.xA m.apart.length m.xc,.slice m.bA m.before.length m.bc] 30)).alloc (.cells #[.int .i64 r.r.kind,.int .i64 r.r.start,.slice r.A r.r.rests.length r.ca,.slice r.C r.r.vis.length r.cc] 34)).alloc (.cells #[.bool s.rest,.int .i64 s.dep,.slice A s.times.length c,.int .i64 s.fin,.int .i64 s.miles] 39)).alloc (.cells #[.int .i64 0,.int .i64 0,.int .i64 0,.int .i64 0] 41)=(((w.alloc (.cells (iQ m) 30)).alloc (.cells (rR r) 34)).alloc (.cells (sQ A c s) 39)).alloc (.cells #[.int .i64 0,.int .i64 0,.int .i64 0,.int .i64 0] 41) from rfl]
 generalize (((w.alloc (.cells (iQ m) 30)).alloc (.cells (rR r) 34)).alloc (.cells (sQ A c s) 39)).alloc (.cells #[.int .i64 0,.int .i64 0,.int .i64 0,.int .i64 0] 41)=wa at *;obtain ⟨h1,hh1⟩:∃ h1,h1=w.heap.size:=⟨_,rfl⟩
 obtain ⟨h2,hh2⟩:∃ h2,h2=w.heap.size+1:=⟨_,rfl⟩
 obtain ⟨h3,hh3⟩:∃ h3,h3=w.heap.size+1+1:=⟨_,rfl⟩
 obtain ⟨h4,hh4⟩:∃ h4,h4=w.heap.size+1+1+1:=⟨_,rfl⟩
 rw [<- hh4] at HK4;rw [<- hh3] at HK3;rw [<- hh2] at HK2;rw [<- hh1] at HK1;have HG4:=hid (show w.heap.size<=h4 by omega);rw [<- hh4,<- hh3,<- hh2,<- hh1];clear hh1 hh2 hh3 hh4;have t1:¬ r.r.kind<0:=by omega
 have t2:¬ (m.types.length:Int)<=r.r.kind:=by omega
 obtain ⟨gt,ot,hT1,hgt,hTC⟩:=HTX.out wa HB.out;have y2:=CX HK1.out 2 (.slice m.tA m.types.length m.tc) rfl;have y0:=CX HK2.out 0 (.int .i64 r.r.kind) rfl;rw [hT1] at y2;have q0:=hTC 0 _ rfl;have q1:=hTC 1 _ rfl;have q2:=hTC 2 _ rfl;have q3:=hTC 3 _ rfl;have q4:=hTC 4 _ rfl;have q5:=hTC 5 _ rfl;have q6:=hTC 6 _ rfl;have q7:=hTC 7 _ rfl;have q8:=hTC 8 _ rfl;have q9:=hTC 9 _ rfl
 have q10:=hTC 10 _ rfl;have q11:=hTC 11 _ rfl;have q12:=hTC 12 _ rfl;have q13:=hTC 13 _ rfl;rw [Nat.add_zero] at q0
 obtain ⟨n5,p5⟩:=Na wa (.cells #[.string (B t.t.name),.int .i64 t.t.count,.int .i64 t.t.frm,.int .i64 t.t.tgt,.slice t.A t.t.cap.length t.ca,.int .i64 t.t.skills,.int .i64 t.t.prof,.int .i64 t.t.opn,.int .i64 t.t.cls,.int .i64 t.t.drive,.int .i64 t.t.rest,.int .i64 t.t.fixed,.int .i64 t.t.mile,.int .i64 t.t.tick] 81);clear hTC hT1 HTX;go_upto_region 4 with fail
 generalize wa.alloc (.cells #[.string (B t.t.name),.int .i64 t.t.count,.int .i64 t.t.frm,.int .i64 t.t.tgt,.slice t.A t.t.cap.length t.ca,.int .i64 t.t.skills,.int .i64 t.t.prof,.int .i64 t.t.opn,.int .i64 t.t.cls,.int .i64 t.t.drive,.int .i64 t.t.rest,.int .i64 t.t.fixed,.int .i64 t.t.mile,.int .i64 t.t.tick] 81)=wb at *;obtain ⟨h5,hh5⟩:∃ h5,h5=wa.heap.size:=⟨_,rfl⟩
 rw [<- hh5] at p5;rw [<- hh5];have HP5:=hid p5;have HB5:=hid (bL HB.out n5);have HK15:=hid (rK HK1.out n5);have HK25:=hid (rK HK2.out n5);have HK35:=hid (rK HK3.out n5);have HK45:=hid (rK HK4.out n5);clear q0 q1 q2 q3 q4 q5 q6 q7 q8 q9 q10 q11 q12 q13 n5 p5 hh5 y2 y0 HB HK1 HK2 HK3 HK4;have x7:=CX HP5.out 7 (.int .i64 t.t.opn) rfl
 have x11:=CX HP5.out 11 (.int .i64 t.t.fixed) rfl;have x12:=CX HP5.out 12 (.int .i64 t.t.mile) rfl;have x13:=CX HP5.out 13 (.int .i64 t.t.tick) rfl;have z3:=CX HK35.out 3 (.int .i64 s.fin) rfl;have z4:=CX HK35.out 4 (.int .i64 s.miles) rfl;go_upto_region 7 with fail;clear x7 x11 x12 x13 z3 z4 HK35
 obtain ⟨co,hco⟩:∃ co,co=t.t.fixed+t.t.mile*s.miles+t.t.tick*(s.fin - t.t.opn):=⟨_,rfl⟩
 obtain ⟨wo,hwo⟩:∃ wo,wo=(s.fin - t.t.opn).tdiv 64*(s.fin - t.t.opn).tdiv 64:=⟨_,rfl⟩
 rw [<- hco,<- hwo] at HSC;rw [<- hco,<- hwo];clear hco hwo hm1 hm2 hq hsq hopn hcls hfx;obtain ⟨n7,p7⟩:=Na wb (.cells #[.int .i64 co,.int .i64 0,.int .i64 0,.int .i64 wo] 41);generalize hw7:wb.alloc (.cells #[.int .i64 co,.int .i64 0,.int .i64 0,.int .i64 wo] 41)=w7 at *;clear hw7;obtain ⟨g10,hg10⟩:∃ g10,g10=wb.heap.size:=⟨_,rfl⟩
 rw [<- hg10] at p7;rw [<- hg10];obtain ⟨n8,p8⟩:=Na w7 (.map #[] 0);have hmap:=World.ownsMap_made (H:=Unit) w7 Tryz.prog 3 (plainElem Tryz.prog 3);go_upto_region 8 with fail;generalize hw8:w7.alloc (.map #[] 0)=w8 at *;clear hw8;obtain ⟨gm,hgm⟩:∃ gm,gm=w7.heap.size:=⟨_,rfl⟩
 rw [<- hgm] at hmap;rw [<- hgm];have HG10:=hid (show w.heap.size<=g10 by rw [hg10];exact HB5.out.size);have HGM:=hid (show w.heap.size<=gm by rw [hgm];exact Nat.le_trans HB5.out.size n7.size);have HG410:=hid (show h4≠g10 by rw [hg10];exact Nat.ne_of_lt (lh HK45.out));have HG110:=hid (show h1≠g10 by rw [hg10];exact Nat.ne_of_lt (lh HK15.out))
 have HG210:=hid (show h2≠g10 by rw [hg10];exact Nat.ne_of_lt (lh HK25.out));have HB8:=hid (bL (bL HB5.out n7) n8);have HK18:=hid (rK (rK HK15.out n7) n8);have HK28:=hid (rK (rK HK25.out n7) n8);have HK48:=hid (rK (rK HK45.out n7) n8);have HP8:=hid (rK p7 n8);have HMAP:=hid hmap
 clear n7 p7 n8 p8 hmap hmm hg10 hgm HB5 HK15 HK25 HK45 HP5;have r3:=CX HK28.out 3 (.slice r.C r.r.vis.length r.cc) rfl;obtain ⟨vs,hvs⟩:∃ vs,vs=r.r.vis:=⟨_,rfl⟩
 rw [<- hvs] at HV hvl r3 HRNG hv8 HSC;have HVS:=hid hvs;clear hvs;go_wp2_with fail;clear r3
 go_loopw [61] (fun j wr=>∃ (k:Nat) (D:DataW Unit),k<=vs.length/\j=.int .i64 k/\Bp D (vs.take k)/\ST wr gm k D/\wr.heap[h1]? = some (.cells (iQ m) 30)/\wr.heap[h2]? = some (.cells (rR r) 34)/\wr.heap[h4]? = some (.cells #[.int .i64 0,.int .i64 0,.int .i64 0,.int .i64 0] 41)/\wr.heap[g10]? = some (.cells #[.int .i64 co,.int .i64 (cK (MF m.v r.r.kind) vs k),.int .i64 (cK (oT m.v r.r.kind) vs k),.int .i64 wo] 41)/\Below w.heap.size w wr) (fun j _=>vs.length - (intOf j).toNat)
 case atStart=>exact ⟨0,.map [],Nat.zero_le _,rfl,seen0,HMAP.out,HK18.out,HK28.out,HK48.out,HP8.out,HB8.out⟩
 case round =>
  clear HMAP HK18 HK28 HK48 HP8 HB8;obtain ⟨k,D,hk,rfl,hseen,hmp,hr1,hr2,hr4,hr10,hbel⟩:=hrel;have HSEEN:=hid hseen;have HMP:=hid hmp;have HR1:=hid hr1;have HR2:=hid hr2;have HR4:=hid hr4;have HR10:=hid hr10;have HBR:=hid hbel;clear hseen hmp hr1 hr2 hr4 hr10 hbel;by_cases hlt:k<vs.length
  ·have hlt1:(k:Int)<(vs.length:Int):=by omega
   obtain ⟨g1,o1,hA1,hg1,hx1⟩:=eP vC (by decide) (HV.out.below HBR.out) (by omega);have x0:=hx1 k hlt 0 _ rfl;have x1:=hx1 k hlt 1 _ rfl;rw [Nat.add_zero] at x0;have hu:=HRNG.out _ (List.getElem_mem hlt);have HTS:=hid (Ts hlt);have HGD:=hid (getD_at vs (0,false) hlt);rw [hA1];clear hx1 hA1;obtain ⟨u,hu'⟩:∃ u,u=vs[k]:=⟨_,rfl⟩
   rw [<- hu'] at x0 x1 hu HTS HGD;clear hu';obtain ⟨u0,u1⟩:=u;simp only at x0 x1 hu;obtain ⟨o,rfl⟩:∃ o:Nat,u0=(o:Int):=⟨u0.toNat,by omega⟩
   have ho:o<m.ords.length:=by omega
   have ho1:(o:Int)<(m.ords.length:Int):=by omega
   obtain ⟨n5,p5⟩:=Na wr (.cells #[.int .i64 (o:Int),.bool u1] 92);go_upto_region 11 with fail;generalize hw5:wr.alloc (.cells #[.int .i64 (o:Int),.bool u1] 92)=w5 at *;clear hw5;have HB7:=hid (bL HBR.out n5);have HR17:=hid (rK HR1.out n5);have HR27:=hid (rK HR2.out n5);have HR47:=hid (rK HR4.out n5);have HR107:=hid (rK HR10.out n5)
   have HMP7:=hid (HMP.out.below n5);have HP7:=hid p5;obtain ⟨g13,hg13⟩:∃ g13,g13=wr.heap.size:=⟨_,rfl⟩
   rw [<- hg13] at HP7;rw [<- hg13];clear n5 p5 hg13 x0 x1 HBR HR1 HR2 HR4 HR10 HMP hu;have y0:=CX HP7.out 0 (.int .i64 (o:Int)) rfl;have HKEY:=hid (keyOf_int_mk (P:=Tryz.prog) Tryz.underlying3 (a:=(o:Int)) (fits_wf (by omega)));have hocc:=occ_le (vs.take k) (o:Int);rw [List.length_take] at hocc
   go_upto_region 12 with (first | (at_lookup;refine wpList_lookup_own_int _ rfl _ _ 154 rfl 3 3 .i64 Li Tryz.underlying154 Tryz.underlying3 (zi _) gm k D rfl HMP7.out _ _ rfl HKEY.out ?_;intro c0 hat0 hwc0;rw [HSEEN.out (o:Int)] at hat0;obtain rfl:c0=(occ (vs.take k) (o:Int):Int):=(by injection hat0 with hat0;injection hat0 with _ hat0;exact hat0.symm)) | (at_mapUpdate;refine wpList_mapUpdate_own _ rfl _ _ _ 154 rfl 3 3 Li Tryz.underlying154 _ gm k D rfl HMP7.out (by unfold maxLen;omega) _ _ _ rfl rfl HKEY.out _ [] (plainElem_int Tryz.underlying3 (fits_wf (by omega))) ?_;intro w9 hmp9 hgr9))
   have HS9:=hid (show Bp _ (vs.take (k+1)) from by rw [HTS.out];exact Bp.step (u1:=u1) HSEEN.out (ST.isMap HMP7.out) rfl);have HMP9:=hid hmp9;have HR19:=hid ((hgr9.block h1 (lh HR17.out) (fun e=>(ST.ne HMP7.out HR17.out) (by injection e))).trans HR17.out)
   have HR29:=hid ((hgr9.block h2 (lh HR27.out) (fun e=>(ST.ne HMP7.out HR27.out) (by injection e))).trans HR27.out);have HR49:=hid ((hgr9.block h4 (lh HR47.out) (fun e=>(ST.ne HMP7.out HR47.out) (by injection e))).trans HR47.out);have HR109:=hid ((hgr9.block g10 (lh HR107.out) (fun e=>(ST.ne HMP7.out HR107.out) (by injection e))).trans HR107.out)
   have HP9:=hid ((hgr9.block g13 (lh HP7.out) (fun e=>(ST.ne HMP7.out HP7.out) (by injection e))).trans HP7.out);have HB9:=hid (HB7.out.grown hgr9 HB7.out.size (fun j hj=>by cases hj;exact HGM.out));clear hmp9 hgr9 HSEEN HMP7 HR17 HR27 HR47 HR107 HP7 HB7 y0;generalize D.put (.int .i64 (o:Int)) _=D9 at *;have HOCC:=hid (occ_snoc (vs.take k) ((o:Int),u1) (o:Int))
   rw [<- HTS.out,show iO (o:Int) ((o:Int),u1)=true by simp [iO]] at HOCC;have y0:=CX HP9.out 0 (.int .i64 (o:Int)) rfl;have y3:=CX HR19.out 3 (.slice m.oA m.ords.length m.oc) rfl;have z0:=CX HR29.out 0 (.int .i64 r.r.kind) rfl;have t3:¬ (o:Int)<0:=by omega
   have t4:¬ (m.ords.length:Int)<=(o:Int):=by omega
   have hpos:=occ_pos (vs:=vs.take k) (o:=(o:Int));have HOC1:=hid (show occ (vs.take (k+1)) (o:Int)=occ (vs.take k) (o:Int)+1 from HOCC.out);clear HOCC
   cases hold:Ai (vs.take k) (o:Int) with
   |true =>
    have h1c:=hpos.2 hold;have HN:=hid (show newV vs k=false by rw [newV_of HGD.out];simp [hold]);have HM1:=hid (cntK_old (f:=MF m.v r.r.kind) HN.out);have HM2:=hid (cntK_old (f:=oT m.v r.r.kind) HN.out);clear hold hpos;obtain ⟨c0,hrun,hat0,_⟩:=World.ownsMap.lookup_int HMP9.out Li Tryz.underlying154 Tryz.underlying3 (zi _) HKEY.out;rw [HS9.out (o:Int),HOC1.out] at hat0
    obtain rfl:c0=((occ (vs.take k) (o:Int)+1:Nat):Int):=(by injection hat0 with hat0;injection hat0 with _ hat0;exact hat0.symm)
    have h2c:(1:Int)<((occ (vs.take k) (o:Int)+1:Nat):Int):=(by omega)
    clear hat0;generalize ((occ (vs.take k) (o:Int)+1:Nat):Int)=c0 at *;go_wp2_with fail;go_roundw
    case rel=>exact ⟨k+1,D9,by omega,by go_num,HS9.out,HMP9.out,HR19.out,HR29.out,HR49.out,by rw [HM1.out,HM2.out];exact HR109.out,HB9.out⟩
    case measure=>simp [intOf];omega
   |false =>
    have h1c:occ (vs.take k) (o:Int)=0:=by
     rcases Nat.eq_zero_or_pos (occ (vs.take k) (o:Int)) with h | h
     ·exact h
     ·rw [hpos.1 h] at hold;cases hold
    have HN:=hid (show newV vs k=true by rw [newV_of HGD.out];simp [hold]);rw [h1c] at HOC1;clear hold hpos h1c;obtain ⟨go,oo,hO1,hgo,hoc⟩:=eP OM.cells_len (by decide) (HO.out.below HB9.out) (by omega);have HNW:=hid (nowOf_in ho);have HLS:=hid (lastOf_in ho);have hoc2:=hoc o ho;generalize m.ords[o]=om at *;rw [hO1] at y3;have q0:=hoc2 0 _ rfl;have q1:=hoc2 1 _ rfl
    have q2:=hoc2 2 _ rfl;have q3:=hoc2 3 _ rfl;have q4:=hoc2 4 _ rfl;have q5:=hoc2 5 _ rfl;have q6:=hoc2 6 _ rfl;have q7:=hoc2 7 _ rfl;have q8:=hoc2 8 _ rfl;have q9:=hoc2 9 _ rfl;have q10:=hoc2 10 _ rfl;have q11:=hoc2 11 _ rfl;have q12:=hoc2 12 _ rfl;have q13:=hoc2 13 _ rfl;have q14:=hoc2 14 _ rfl;have q15:=hoc2 15 _ rfl;rw [Nat.add_zero] at q0;clear hoc hoc2 hO1
    obtain ⟨c0,hrun,hat0,_⟩:=World.ownsMap.lookup_int HMP9.out Li Tryz.underlying154 Tryz.underlying3 (zi _) HKEY.out;rw [HS9.out (o:Int),HOC1.out] at hat0;obtain rfl:c0=((0+1:Nat):Int):=(by injection hat0 with hat0;injection hat0 with _ hat0;exact hat0.symm)
    clear hat0;go_upto_region 13 with fail
    obtain ⟨n14,p14⟩:=Na w9 (.cells #[.string (B om.o.name),.slice om.A om.o.load.length om.ca,.int .i64 om.o.pick.place,.int .i64 om.o.pick.opn,.int .i64 om.o.pick.cls,.int .i64 om.o.pick.serv,.int .i64 om.o.drop.place,.int .i64 om.o.drop.opn,.int .i64 om.o.drop.cls,.int .i64 om.o.drop.serv,.int .i64 om.o.skills,.int .i64 om.o.pen,.int .i64 om.o.split,.int .i64 om.o.last,.int .i64 om.o.now,.bool om.o.off] 136)
    go_upto_region 14 with fail
    generalize hw14:w9.alloc (.cells #[.string (B om.o.name),.slice om.A om.o.load.length om.ca,.int .i64 om.o.pick.place,.int .i64 om.o.pick.opn,.int .i64 om.o.pick.cls,.int .i64 om.o.pick.serv,.int .i64 om.o.drop.place,.int .i64 om.o.drop.opn,.int .i64 om.o.drop.cls,.int .i64 om.o.drop.serv,.int .i64 om.o.skills,.int .i64 om.o.pen,.int .i64 om.o.split,.int .i64 om.o.last,.int .i64 om.o.now,.bool om.o.off] 136)=w14 at *
    clear hw14;obtain ⟨g14,hg14⟩:∃ g14,g14=w9.heap.size:=⟨_,rfl⟩
    rw [<- hg14] at p14;rw [<- hg14];have HR114:=hid (rK HR19.out n14);have HR214:=hid (rK HR29.out n14);have HR414:=hid (rK HR49.out n14);have HR1014:=hid (rK HR109.out n14);have HMP14:=hid (ST.below HMP9.out n14);have HB14:=hid (bL HB9.out n14);have HNE:=hid (show gm≠g10 from fun e=>(ST.ne HMP9.out HR109.out) e.symm)
    have x14:=CX p14 14 (.int .i64 om.o.now) rfl;have x13:=CX p14 13 (.int .i64 om.o.last) rfl;have z0:=CX HR214.out 0 (.int .i64 r.r.kind) rfl;have s1:=CX HR1014.out 1 (.int .i64 (cK (MF m.v r.r.kind) vs k)) rfl;have s2:=CX HR1014.out 2 (.int .i64 (cK (oT m.v r.r.kind) vs k)) rfl;have f1:=fz HR1014.out 1;have f2:=fz HR1014.out 2
    have hcb1:=CK (MF m.v r.r.kind) vs k;have hcb2:=CK (oT m.v r.r.kind) vs k;have HMF:=hid (show MF m.v r.r.kind (vs.getD k (0,false)).1=fB om.o.now r.r.kind by unfold MF;rw [HGD.out,HNW.out]);have HOF:=hid (show oT m.v r.r.kind (vs.getD k (0,false)).1=fB om.o.last r.r.kind by unfold oT;rw [HGD.out,HLS.out])
    have HC1y:=hid (fun h=>cntK_yes (f:=MF m.v r.r.kind) HN.out h);have HC1n:=hid (fun h=>cntK_no (f:=MF m.v r.r.kind) (vs:=vs) (k:=k) h);have HC2y:=hid (fun h=>cntK_yes (f:=oT m.v r.r.kind) HN.out h);have HC2n:=hid (fun h=>cntK_no (f:=oT m.v r.r.kind) (vs:=vs) (k:=k) h);rw [HMF.out] at HC1y HC1n;rw [HOF.out] at HC2y HC2n
    clear q0 q1 q2 q3 q4 q5 q6 q7 q8 q9 q10 q11 q12 q13 q14 q15 n14 p14 hg14 hrun HR19 HR29 HR49 HR109 HMP9 HB9 HMF HOF HNW HLS y0 y3 HP9;generalize cK (MF m.v r.r.kind) vs k=mv at *;generalize cK (oT m.v r.r.kind) vs k=ot2 at *;go_wp2_with fail;refine (Fa om.o.now r.r.kind w14).mono ?_;rintro e w15 ⟨rfl,hw⟩;obtain rfl:=hw.symm
    have HFB:=hid (fun w'=>Fa om.o.last r.r.kind w')
    cases hb1:fB om.o.now r.r.kind with
    |true =>
     have HE1:=hid (HC1y.out hb1);clear hb1 HC1y HC1n;go_upto_region 16 with fail;have f3:=fz (Hp (i:=1) (v:=.int .i64 (mv+1)) HR1014.out) 2;go_wp2_with fail;refine (HFB.out _).mono ?_;rintro e w15 ⟨rfl,hw⟩;obtain rfl:=hw.symm
     cases hb2:fB om.o.last r.r.kind with
     |true =>
      have HE2:=hid (HC2y.out hb2);clear hb2 HC2y HC2n;go_wp2_with fail;go_roundw
      case rel=>exact ⟨k+1,D9,by omega,by go_num,HS9.out,ST.set (ST.set HMP14.out HNE.out) HNE.out,setOther (setOther HR114.out HG110.out) HG110.out,setOther (setOther HR214.out HG210.out) HG210.out,setOther (setOther HR414.out HG410.out) HG410.out,by rw [HE1.out,HE2.out];exact Hp (Hp HR1014.out),(HB14.out.setCell (p:=⟨g10,1,none⟩) HG10.out _).setCell (p:=⟨g10,2,none⟩) HG10.out _⟩
      case measure=>simp [intOf];omega
     |false =>
      have HE2:=hid (HC2n.out hb2);clear hb2 HC2y HC2n;go_wp2_with fail;go_roundw
      case rel=>exact ⟨k+1,D9,by omega,by go_num,HS9.out,ST.set HMP14.out HNE.out,setOther HR114.out HG110.out,setOther HR214.out HG210.out,setOther HR414.out HG410.out,by rw [HE1.out,HE2.out];exact Hp HR1014.out,HB14.out.setCell (p:=⟨g10,1,none⟩) HG10.out _⟩
      case measure=>simp [intOf];omega
    |false =>
     have HE1:=hid (HC1n.out hb1);clear hb1 HC1y HC1n;go_wp2_with fail;refine (HFB.out _).mono ?_;rintro e w15 ⟨rfl,hw⟩;obtain rfl:=hw.symm
     cases hb2:fB om.o.last r.r.kind with
     |true =>
      have HE2:=hid (HC2y.out hb2);clear hb2 HC2y HC2n;go_wp2_with fail;go_roundw
      case rel=>exact ⟨k+1,D9,by omega,by go_num,HS9.out,ST.set HMP14.out HNE.out,setOther HR114.out HG110.out,setOther HR214.out HG210.out,setOther HR414.out HG410.out,by rw [HE1.out,HE2.out];exact Hp HR1014.out,HB14.out.setCell (p:=⟨g10,2,none⟩) HG10.out _⟩
      case measure=>simp [intOf];omega
     |false =>
      have HE2:=hid (HC2n.out hb2);clear hb2 HC2y HC2n;go_wp2_with fail;go_roundw
      case rel=>exact ⟨k+1,D9,by omega,by go_num,HS9.out,HMP14.out,HR114.out,HR214.out,HR414.out,by rw [HE1.out,HE2.out];exact HR1014.out,HB14.out⟩
      case measure=>simp [intOf];omega
  ·have hlt1:¬ (k:Int)<(vs.length:Int):=by omega
   have hke:k=vs.length:=by omega
   have HS:=hid (rS (sR (sP m.v t.t r.r.kind vs s.fin s.miles)) HR4.out HBR.out HG4.out);have HROW:=hid (show wr.heap[g10]? = some (.cells (sR (sP m.v t.t r.r.kind vs s.fin s.miles)) 41) by rw [HSC.out];unfold sR;simp only;rw [<- hke];exact HR10.out);clear hke HSC HR10
   go_wp2_with (first | (refine lr HROW.out Tryz.underlying41 ?_) | (refine sw (sR (sP m.v t.t r.r.kind vs s.fin s.miles)) HR4.out ?_))
   refine bodyPost_ret (Rr rfl (Le HS.out.1) rfl) rfl ?_;exact ⟨by rw [<- HVS.out];rfl,HS.out.2⟩

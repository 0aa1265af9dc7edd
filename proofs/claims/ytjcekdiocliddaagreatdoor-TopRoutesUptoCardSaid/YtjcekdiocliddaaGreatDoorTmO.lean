/- route.Evaluate. (Printed by wip/tk/mkTmO.py.) -/
import Derived.Test.YtjcekdiocliddaaGreatDoorTmN
import Derived.Test.YtjcekdiocliddaaGreatDoorG79
namespace Go.Proofs.YtjcekdiocliddaaGreatDoor
open Lib (hid)
open Go.RowKit Num Txt Pf Tk
set_option maxHeartbeats 32000000
set_option maxRecDepth 100000
set_option linter.unusedVariables false
attribute [local go_sem] BS Bg Bt Bm Be Ba
def scZ:Sc:=⟨0,0,0,0⟩
structure GR (x:IV) (t:TV) (r:RV):Prop where
 kind:0<=r.kind
 typ:x.types[r.kind.toNat]? = some t
 seq:sE x r.vis=0
 able:AA x t r.vis=true
 carry:cB x t r.vis=true
def EE (m:IM) (r:RM) (w:World) (e:Ending) (w':World):Prop:=∃ (A:Option Addr) (c:Nat) (s:SV) (v:Sc) (k:Int),e=.returned (.tuple #[.agg (sQ A c s),.agg (sR v),.int .i64 k]) /\
 (k=0->Tt w' A c s.times/\∃ p,PlanIs m.v r.r p/\BE p s/\MinS p s/\GR m.v p.t r.r/\v=sP m.v p.t r.r.kind r.r.vis s.fin s.miles)/\(k≠0->NR m.v r.r∨∀ t,¬ GR m.v t r.r)/\Below w.heap.size w w'
theorem EE.no {m:IM} {r:RM} {w w':World} {k:Int} (h:k≠0/\(NR m.v r.r∨∀ t,¬ GR m.v t r.r)) (hb:Below w.heap.size w w'):EE m r w (.returned (.tuple #[.agg (sQ none 0 SZ),.agg (sR scZ),.int .i64 k])) w':=⟨none,0,SZ,scZ,k,rfl,fun h2=>absurd h2 h.1,fun _=>h.2,hb⟩
theorem typ_get {m:IM} {k:Nat} (h:k<m.types.length):m.v.types[k]? = some m.types[k].t:=by
 unfold IM.v;simp only [List.getElem?_map,List.getElem?_eq_getElem h,Option.map_some]
theorem best_bnd {m:IM} {r:RM} {p:Tr} {s:SV} (hok:IK m.v) (hv8:r.r.vis.length<=8) (hp:PlanIs m.v r.r p) (hs:BE p s):(0<=s.fin/\s.fin<=4096)/\(0<=s.miles/\s.miles<=1000000):=by
 have ht:=hp.ok hok;have h1:=(small_of ht hs.legs.1 hs.legs.2).fin;obtain ⟨cs,l,hc,hr,rfl,_,_⟩:=hs.run;have h2:=(run_ok ht _ cs l 0 hc (Nat.le_refl _) hr).miles;have h3:=hp.len;refine ⟨h1,h2.1,?_⟩;have h4:((p.stops.length+1:Nat):Int)<=9:=by omega
 omega
theorem evaluate_any (m:IM) (r:RM) (w:World) (hm:IA w m) (hok:IK m.v) (hml:m.ords.length<=3) (hr:Rt w r) (hv8:r.r.vis.length<=8) (hT:Tb w) :
  Calls Tryz.prog 7 #[iA m,ro r] w (EE m r w):=by
 obtain ⟨k1,k2,k4,k5,kb⟩:=alloc4 w (.cells (iQ m) 30) (.cells (rR r) 34) (.cells #[.bool false,.int .i64 0,.slice none 0 0,.int .i64 0,.int .i64 0] 39) (.cells #[.int .i64 0,.int .i64 0,.int .i64 0,.int .i64 0] 41);have HB:=hid kb;have HK1:=hid k1;have HK2:=hid k2;have HK4:=hid k4;have HK5:=hid k5;have HM:=hid (fun w' (hb:Below w.heap.size w w')=>hm.below hb)
 have HR:=hid (fun w' (hb:Below w.heap.size w w')=>hr.below hb);have HT:=hid hT;have HOK:=hid hok;have htl:=hm.tl;unfold maxLen at htl;clear hm hr hT hok k1 k2 k4 k5 kb;go_enter Tryz.func7,Tryz.ntmps7;(try simp only [Bm]);go_upto_region 1 with fail;rw [iq,rq]
 generalize (((w.alloc (.cells (iQ m) 30)).alloc (.cells (rR r) 34)).alloc (.cells #[.bool false,.int .i64 0,.slice none 0 0,.int .i64 0,.int .i64 0] 39)).alloc (.cells #[.int .i64 0,.int .i64 0,.int .i64 0,.int .i64 0] 41)=wa at *;obtain ⟨h1,hh1⟩:∃ h1,h1=w.heap.size:=⟨_,rfl⟩
 obtain ⟨h2,hh2⟩:∃ h2,h2=w.heap.size+1:=⟨_,rfl⟩
 obtain ⟨h4,hh4⟩:∃ h4,h4=w.heap.size+1+1:=⟨_,rfl⟩
 obtain ⟨h5,hh5⟩:∃ h5,h5=w.heap.size+1+1+1:=⟨_,rfl⟩
 rw [<- hh5] at HK5;rw [<- hh4] at HK4;rw [<- hh2] at HK2;rw [<- hh1] at HK1;have HG4:=hid (show w.heap.size<=h4 by omega);have HG5:=hid (show w.heap.size<=h5 by omega);have HNE:=hid (show h5≠h4 by omega);have HNE2:=hid (show h4≠h5 by omega);have HN14:=hid (show h1≠h4/\h2≠h4/\h1≠h5/\h2≠h5 by omega);rw [<- hh5,<- hh4,<- hh2,<- hh1];clear hh1 hh2 hh4 hh5
 have q2:=CX HK1.out 2 (.slice m.tA m.types.length m.tc) rfl;have q0:=CX HK2.out 0 (.int .i64 r.r.kind) rfl;by_cases c1:r.r.kind<0
 ·have HW:=hid (show (2:Int)≠0/\(NR m.v r.r∨∀ t,¬ GR m.v t r.r) from ⟨by decide,Or.inr fun t h=>absurd h.kind (by omega)⟩)
  have HS4:=hid (rS (sQ none 0 SZ) HK4.out HB.out HG4.out);have HS5:=hid (rS (sR scZ) ((setRow_other _ _ _ _ HNE.out).trans HK5.out) HS4.out.2 HG5.out)
  go_wp2_with (first | (refine sw (sQ none 0 SZ) HK4.out ?_) | (refine wpList_store_row rfl 41 _ _ rfl h5 (sR scZ) rfl rfl 41 _ ((setRow_other _ _ _ _ HNE.out).trans HK5.out) (by kernel_rfl) rfl (by kernel_rfl) ?_))
  refine bodyPost_ret (re rfl (Lt ((setRow_other _ _ _ _ HNE2.out).trans HS4.out.1)) (Le HS5.out.1) rfl rfl rfl) rfl ?_;exact EE.no HW.out HS5.out.2
 by_cases c2:(m.types.length:Int)<=r.r.kind
 ·have HW:=hid (show (2:Int)≠0/\(NR m.v r.r∨∀ t,¬ GR m.v t r.r) from ⟨by decide,Or.inr fun t h=>by
   have h1:=h.typ;have h2:=(List.getElem?_eq_some_iff.1 h1).1;unfold IM.v at h2;rw [List.length_map] at h2;omega⟩)
  have HS4:=hid (rS (sQ none 0 SZ) HK4.out HB.out HG4.out);have HS5:=hid (rS (sR scZ) ((setRow_other _ _ _ _ HNE.out).trans HK5.out) HS4.out.2 HG5.out)
  go_wp2_with (first | (refine sw (sQ none 0 SZ) HK4.out ?_) | (refine wpList_store_row rfl 41 _ _ rfl h5 (sR scZ) rfl rfl 41 _ ((setRow_other _ _ _ _ HNE.out).trans HK5.out) (by kernel_rfl) rfl (by kernel_rfl) ?_))
  refine bodyPost_ret (re rfl (Lt ((setRow_other _ _ _ _ HNE2.out).trans HS4.out.1)) (Le HS5.out.1) rfl rfl rfl) rfl ?_;exact EE.no HW.out HS5.out.2
 have hk0:0<=r.r.kind:=by omega
 have hkl:r.r.kind.toNat<m.types.length:=by omega
 have HTG:=hid (typ_get hkl);have HCK:=hid (fun w' (hb:Below w.heap.size w w')=>scheck_any m r w' (HM.out w' hb) hml (HR.out w' hb));have HAB:=hid (fun w' (hb:Below w.heap.size w w') (hs:sE m.v r.r.vis=0)=>rable_any m r w' (HM.out w' hb) HOK.out hml (HR.out w' hb) hk0 hkl (fun v hv=>by rw [<- oL m];exact sG hs v hv))
 have HCA:=hid (fun w' (hb:Below w.heap.size w w') (hs:sE m.v r.r.vis=0)=>cfits_any m r w' (HM.out w' hb) HOK.out hml (HR.out w' hb) hv8 hs hk0 hkl);obtain ⟨t,ht⟩:∃ t,t=m.types[r.r.kind.toNat]:=⟨_,rfl⟩
 rw [<- ht] at HTG HAB HCA;have HTT:=hid ht;clear ht;obtain ⟨n3,p3⟩:=Na wa (.cells #[.func (Fn.func 19) #[] #[],.func (Fn.func 20) #[] #[],.func (Fn.func 21) #[] #[]] 76);go_upto_region 4 with fail;generalize hwb:wa.alloc (.cells #[.func (Fn.func 19) #[] #[],.func (Fn.func 20) #[] #[],.func (Fn.func 21) #[] #[]] 76)=wb at *;clear hwb;obtain ⟨h3,hh3⟩:∃ h3,h3=wa.heap.size:=⟨_,rfl⟩
 rw [<- hh3] at p3;rw [<- hh3];have HB3:=hid (bL HB.out n3);have HK13:=hid (rK HK1.out n3);have HK23:=hid (rK HK2.out n3);have HK43:=hid (rK HK4.out n3);have HK53:=hid (rK HK5.out n3);have HP3:=hid p3;clear n3 p3 hh3 q2 q0 HB HK1 HK2 HK4 HK5
 go_loopw [27] (fun j wr=>∃ k:Nat,k<=3/\j=.int .i64 k/\(1<=k->sE m.v r.r.vis=0)/\(2<=k->AA m.v t.t r.r.vis=true)/\(3<=k->cB m.v t.t r.r.vis=true)/\wr.heap[h1]? = some (.cells (iQ m) 30)/\wr.heap[h2]? = some (.cells (rR r) 34)/\wr.heap[h4]? = some (.cells #[.bool false,.int .i64 0,.slice none 0 0,.int .i64 0,.int .i64 0] 39)/\wr.heap[h5]? = some (.cells #[.int .i64 0,.int .i64 0,.int .i64 0,.int .i64 0] 41)/\wr.heap[h3]? = some (.cells #[.func (Fn.func 19) #[] #[],.func (Fn.func 20) #[] #[],.func (Fn.func 21) #[] #[]] 76)/\Below w.heap.size w wr) (fun j _=>3 - (intOf j).toNat)
 case atStart=>exact ⟨0,by omega,rfl,fun h=>absurd h (by decide),fun h=>absurd h (by decide),fun h=>absurd h (by decide),HK13.out,HK23.out,HK43.out,HK53.out,HP3.out,HB3.out⟩
 case round =>
  clear HK13 HK23 HK43 HK53 HP3 HB3;obtain ⟨k,hk,rfl,hs1,hs2,hs3,hr1,hr2,hr4,hr5,hr3,hbel⟩:=hrel;have HS1:=hid hs1;have HS2:=hid hs2;have HS3:=hid hs3;have HR1:=hid hr1;have HR2:=hid hr2;have HR4:=hid hr4;have HR5:=hid hr5;have HR3:=hid hr3;have HB:=hid hbel;clear hs1 hs2 hs3 hr1 hr2 hr4 hr5 hr3 hbel;by_cases hlt:k<3
  ·have hlt1:(k:Int)<3:=by omega
   have f0:=CX HR3.out 0 (.func (Fn.func 19) #[] #[]) rfl;have f1:=CX HR3.out 1 (.func (Fn.func 20) #[] #[]) rfl;have f2:=CX HR3.out 2 (.func (Fn.func 21) #[] #[]) rfl;obtain rfl | rfl | rfl:k=0∨k=1∨k=2:=by omega
   ·clear f1 f2
    go_wp2_with (first | (refine lr HR1.out Tryz.underlying30 ?_) | (refine lr HR2.out Tryz.underlying34 ?_))
    refine (HCK.out wr HB.out).mono ?_;rintro e w5 ⟨rfl,hb5⟩;generalize hz:sE m.v r.r.vis=z at *;have HZ:=hid hz;clear hz;have HK15:=hid (rK HR1.out hb5);have HK25:=hid (rK HR2.out hb5);have HK45:=hid (rK HR4.out hb5);have HK55:=hid (rK HR5.out hb5);have HK35:=hid (rK HR3.out hb5);have HB5:=hid (bL HB.out hb5);clear hb5
    by_cases hz:z=0
    ·subst hz
     skip
     go_wp2_with fail;go_roundw
     case rel=>exact ⟨1,by omega,by go_num,fun _=>HZ.out,fun h=>absurd h (by decide),fun h=>absurd h (by decide),HK15.out,HK25.out,HK45.out,HK55.out,HK35.out,HB5.out⟩
     case measure=>simp [intOf]
    ·have hzb:=ib hz
     have HW:=hid (show z≠0/\(NR m.v r.r∨∀ t,¬ GR m.v t r.r) from ⟨hz,Or.inr fun t2 h=>hz (by rw [<- HZ.out];exact h.seq)⟩);clear hz;have HS4:=hid (rS (sQ none 0 SZ) HK45.out HB5.out HG4.out);have HS5:=hid (rS (sR scZ) ((setRow_other _ _ _ _ HNE.out).trans HK55.out) HS4.out.2 HG5.out)
     go_wp2_with (first | (refine sw (sQ none 0 SZ) HK45.out ?_) | (refine wpList_store_row rfl 41 _ _ rfl h5 (sR scZ) rfl rfl 41 _ ((setRow_other _ _ _ _ HNE.out).trans HK55.out) (by kernel_rfl) rfl (by kernel_rfl) ?_))
     refine bodyPost_ret (re rfl (Lt ((setRow_other _ _ _ _ HNE2.out).trans HS4.out.1)) (Le HS5.out.1) rfl rfl rfl) rfl ?_;exact EE.no HW.out HS5.out.2
   ·clear f0 f2
    go_wp2_with (first | (refine lr HR1.out Tryz.underlying30 ?_) | (refine lr HR2.out Tryz.underlying34 ?_))
    refine (HAB.out wr HB.out (HS1.out (by omega))).mono ?_;rintro e w5 ⟨z,rfl,hz,hb5⟩;have HZ:=hid hz;clear hz;have HK15:=hid (rK HR1.out hb5);have HK25:=hid (rK HR2.out hb5);have HK45:=hid (rK HR4.out hb5);have HK55:=hid (rK HR5.out hb5);have HK35:=hid (rK HR3.out hb5);have HB5:=hid (bL HB.out hb5);clear hb5;by_cases hz:z=0
    ·subst hz
     have HA:=hid (HZ.out.1 rfl);go_wp2_with fail;go_roundw
     case rel=>exact ⟨2,by omega,by go_num,fun _=>HS1.out (by omega),fun _=>HA.out,fun h=>absurd h (by decide),HK15.out,HK25.out,HK45.out,HK55.out,HK35.out,HB5.out⟩
     case measure=>simp [intOf]
    ·have hzb:=ib hz
     have HW:=hid (show z≠0/\(NR m.v r.r∨∀ t,¬ GR m.v t r.r) from ⟨hz,Or.inr fun t2 h=>hz (HZ.out.2 (by have e:t2=t.t:=Option.some.inj (h.typ.symm.trans HTG.out);rw [<- e];exact h.able))⟩);clear hz;have HS4:=hid (rS (sQ none 0 SZ) HK45.out HB5.out HG4.out);have HS5:=hid (rS (sR scZ) ((setRow_other _ _ _ _ HNE.out).trans HK55.out) HS4.out.2 HG5.out)
     go_wp2_with (first | (refine sw (sQ none 0 SZ) HK45.out ?_) | (refine wpList_store_row rfl 41 _ _ rfl h5 (sR scZ) rfl rfl 41 _ ((setRow_other _ _ _ _ HNE.out).trans HK55.out) (by kernel_rfl) rfl (by kernel_rfl) ?_))
     refine bodyPost_ret (re rfl (Lt ((setRow_other _ _ _ _ HNE2.out).trans HS4.out.1)) (Le HS5.out.1) rfl rfl rfl) rfl ?_;exact EE.no HW.out HS5.out.2
   ·clear f0 f1
    go_wp2_with (first | (refine lr HR1.out Tryz.underlying30 ?_) | (refine lr HR2.out Tryz.underlying34 ?_))
    refine (HCA.out wr HB.out (HS1.out (by omega))).mono ?_;rintro e w5 ⟨z,rfl,hz,hb5⟩;have HZ:=hid hz;clear hz;have HK15:=hid (rK HR1.out hb5);have HK25:=hid (rK HR2.out hb5);have HK45:=hid (rK HR4.out hb5);have HK55:=hid (rK HR5.out hb5);have HK35:=hid (rK HR3.out hb5);have HB5:=hid (bL HB.out hb5);clear hb5;by_cases hz:z=0
    ·subst hz
     have HA:=hid (HZ.out.1 rfl);go_wp2_with fail;go_roundw
     case rel=>exact ⟨3,by omega,by go_num,fun _=>HS1.out (by omega),fun _=>HS2.out (by omega),fun _=>HA.out,HK15.out,HK25.out,HK45.out,HK55.out,HK35.out,HB5.out⟩
     case measure=>simp [intOf]
    ·have hzb:=ib hz
     have HW:=hid (show z≠0/\(NR m.v r.r∨∀ t,¬ GR m.v t r.r) from ⟨hz,Or.inr fun t2 h=>hz (HZ.out.2 (by have e:t2=t.t:=Option.some.inj (h.typ.symm.trans HTG.out);rw [<- e];exact h.carry))⟩);clear hz;have HS4:=hid (rS (sQ none 0 SZ) HK45.out HB5.out HG4.out);have HS5:=hid (rS (sR scZ) ((setRow_other _ _ _ _ HNE.out).trans HK55.out) HS4.out.2 HG5.out)
     go_wp2_with (first | (refine sw (sQ none 0 SZ) HK45.out ?_) | (refine wpList_store_row rfl 41 _ _ rfl h5 (sR scZ) rfl rfl 41 _ ((setRow_other _ _ _ _ HNE.out).trans HK55.out) (by kernel_rfl) rfl (by kernel_rfl) ?_))
     refine bodyPost_ret (re rfl (Lt ((setRow_other _ _ _ _ HNE2.out).trans HS4.out.1)) (Le HS5.out.1) rfl rfl rfl) rfl ?_;exact EE.no HW.out HS5.out.2
  ·have hke:k=3:=by omega
   subst hke;have HGD:=hid (show GR m.v t.t r.r from ⟨hk0,HTG.out,HS1.out (by decide),HS2.out (by decide),HS3.out (by decide)⟩);have HBE:=hid (dbest_any m r wr (HM.out wr HB.out) HOK.out (HR.out wr HB.out) hv8 (HT.out.below HB.out))
   have HPRR:=hid (fun (A:Option Addr) (c:Nat) (s:SV) (w':World) (hb:Below w.heap.size w w') (h1:0<=s.fin/\s.fin<=4096) (h2:0<=s.miles/\s.miles<=1000000)=>proute_any m r A c s w' (HM.out w' hb) HOK.out hml (HR.out w' hb) hv8 (fun v hv=>by rw [<- oL m];exact sG (HS1.out (by decide)) v hv) hk0 hkl h1 h2);rw [<- HTT.out] at HPRR;clear hlt HCK HAB HCA HS1 HS2 HS3 HR3;generalize wr=wo at *
   go_wp2_with (first | (refine lr HR1.out Tryz.underlying30 ?_) | (refine lr HR2.out Tryz.underlying34 ?_))
   refine HBE.out.mono ?_;rintro e w5 ⟨A,c,s,z,rfl,htm,hyes,hno,hb5⟩;have HTM:=hid htm;have HYES:=hid hyes;have HNO:=hid hno;have HK15:=hid (rK HR1.out hb5);have HK25:=hid (rK HR2.out hb5);have HK45:=hid (rK HR4.out hb5);have HK55:=hid (rK HR5.out hb5);have HB5:=hid (bL HB.out hb5);clear htm hyes hno hb5 HBE HR1 HR2 HR4 HR5 HB
   obtain ⟨p6,n6⟩:=nS w5 #[.bool false,.int .i64 0,.slice none 0 0,.int .i64 0,.int .i64 0] (sQ A c s) 39;go_upto_region 11 with (refine wpList_store_row rfl 39 _ _ rfl w5.heap.size (sQ A c s) rfl rfl 39 _ (Na w5 _).2 (by kernel_rfl) rfl (by kernel_rfl) ?_)
   generalize hw6:(w5.alloc (.cells #[.bool false,.int .i64 0,.slice none 0 0,.int .i64 0,.int .i64 0] 39)).setRow w5.heap.size (sQ A c s)=w6 at *;clear hw6;obtain ⟨h10,hh10⟩:∃ h10,h10=w5.heap.size:=⟨_,rfl⟩
   rw [<- hh10] at p6;rw [<- hh10];have HP6:=hid p6;have HK16:=hid (rK HK15.out n6);have HK26:=hid (rK HK25.out n6);have HK46:=hid (rK HK45.out n6);have HK56:=hid (rK HK55.out n6);have HB6:=hid (bL HB5.out n6);have HTM6:=hid (HTM.out.below n6)
   have HN410:=hid (show h10≠h4/\h10≠h5 by rw [hh10];exact ⟨Ne.symm (Nat.ne_of_lt (lh HK45.out)),Ne.symm (Nat.ne_of_lt (lh HK55.out))⟩);clear p6 n6 hh10 HTM HK15 HK25 HK45 HK55 HB5;by_cases hz:z=0
   ·subst hz
    obtain ⟨p,hp,hbs,hms⟩:=HYES.out rfl;have hpt:p.t=t.t:=by have h1:=hp.t.symm.trans HTG.out;injection h1
    obtain ⟨hf,hmi⟩:=best_bnd HOK.out hv8 hp hbs;have hdb:Below w6.heap.size w6 w6.drew:=(Below.refl _ w6).drew;have hdb:=hid hdb;have HPR:=hid (HPRR.out A c s w6.drew (bL HB6.out hdb.out) hf hmi);unfold ScoreE at HPR;obtain ⟨sv,hsv⟩:∃ sv,sv=sP m.v t.t r.r.kind r.r.vis s.fin s.miles:=⟨_,rfl⟩
    rw [<- hsv] at HPR;have HFIN:=hid (show ∃ p,PlanIs m.v r.r p/\BE p s/\MinS p s/\GR m.v p.t r.r/\sv=sP m.v p.t r.r.kind r.r.vis s.fin s.miles from ⟨p,hp,hbs,hms,by rw [hpt];exact HGD.out,by rw [hpt];exact hsv⟩);have HN1:=hid (show h1≠h4/\h2≠h4/\h10≠h4 from ⟨HN14.out.1,HN14.out.2.1,HN410.out.1⟩)
    have HN2:=hid (show h1≠h5/\h2≠h5/\h10≠h5 from ⟨HN14.out.2.2.1,HN14.out.2.2.2,HN410.out.2⟩);clear hp hbs hms hpt hf hmi hsv HPRR HYES HNO HGD;go_upto_region 13 with fail;have hS0:(fun w'=>w'.heap[h1]? = some (.cells (iQ m) 30)/\w'.heap[h2]? = some (.cells (rR r) 34)/\w'.heap[h10]? = some (.cells (sQ A c s) 39)) w6.drew:=⟨HK16.out,HK26.out,HP6.out⟩
    refine wp_region_held_drew (S:=fun w'=>w'.heap[h1]? = some (.cells (iQ m) 30)/\w'.heap[h2]? = some (.cells (rR r) 34)/\w'.heap[h10]? = some (.cells (sQ A c s) 39)) (by kernel_rfl) hS0 (fun _=>?_);refine tkr 0 Tryz.underlying39 (fun w hSw=>hSw.2.2) ?_;refine tkr 1 Tryz.underlying30 (fun w hSw=>hSw.1) ?_;refine tkr 2 Tryz.underlying34 (fun w hSw=>hSw.2.1) ?_
    refine tkr 3 Tryz.underlying39 (fun w hSw=>hSw.2.2) ?_;(try simp only [Act.put,P1,pu,P3]);refine one 4 (fun K hK=>?_);go_simp;refine HPR.out.mono ?_;rintro e w7 ⟨rfl,hb7⟩;have HB7:=hid (bL hdb.out hb7);have HK17:=hid (rK (w:=w6.drew) HK16.out hb7);have HK27:=hid (rK (w:=w6.drew) HK26.out hb7);have HK47:=hid (rK (w:=w6.drew) HK46.out hb7)
    have HK57:=hid (rK (w:=w6.drew) HK56.out hb7);have HP7:=hid (rK (w:=w6.drew) HP6.out hb7);refine hK.out _ _ (⟨HK17.out,HK27.out,HP7.out⟩) (fun _=>?_);clear hK K;(try simp only [Act.put,P1,pu,P3]);refine one 5 (fun K hK=>?_);refine Wg (by rfl) ?_;refine wp_store_row 39 _ _ rfl h4 (sQ A c s) rfl rfl 39 _ HK47.out (by kernel_rfl) rfl (by kernel_rfl) ?_
    refine hK.out _ _ (⟨(setRow_other _ _ _ _ HN1.out.1).trans HK17.out,(setRow_other _ _ _ _ HN1.out.2.1).trans HK27.out,(setRow_other _ _ _ _ HN1.out.2.2).trans HP7.out⟩) (fun _=>?_);clear hK K;(try simp only [Act.put]);refine one 6 (fun K hK=>?_);refine Wg (by rfl) ?_
    refine wp_store_row 41 _ _ rfl h5 (sR sv) rfl rfl 41 _ ((setRow_other _ _ _ _ HNE.out).trans HK57.out) (by kernel_rfl) rfl (by kernel_rfl) ?_
    refine hK.out _ _ (⟨(setRow_other _ _ _ _ HN2.out.1).trans ((setRow_other _ _ _ _ HN1.out.1).trans HK17.out),(setRow_other _ _ _ _ HN2.out.2.1).trans ((setRow_other _ _ _ _ HN1.out.2.1).trans HK27.out),(setRow_other _ _ _ _ HN2.out.2.2).trans ((setRow_other _ _ _ _ HN1.out.2.2).trans HP7.out)⟩) (fun _=>?_);clear hK K;(try simp only [Act.put]);refine td 7 ?_
    (try simp only [Act.put,P1,pu,P3]);refine wpAnyH_done (by kernel_rfl) ?_ _;have HS4:=hid (rS (sQ A c s) HK47.out (bL HB6.out HB7.out) HG4.out);have HS5:=hid (rS (sR sv) ((setRow_other _ _ _ _ HNE.out).trans HK57.out) HS4.out.2 HG5.out)
    have HTM8:=hid (show Tt (w7.setRow h4 (sQ A c s)) A c s.times from (HTM6.out.below HB7.out).keep HK47.out (by decide) (by rw [setRow_size];exact Nat.le_refl _) (fun k _ hk=>setRow_other _ _ _ _ hk))
    have HTM9:=hid (show Tt ((w7.setRow h4 (sQ A c s)).setRow h5 (sR sv)) A c s.times from HTM8.out.keep ((setRow_other _ _ _ _ HNE.out).trans HK57.out) (by decide) (by simp) (fun k _ hk=>setRow_other _ _ _ _ hk));go_wp2_with fail;refine bodyPost_ret (re rfl (Lt ((setRow_other _ _ _ _ HNE2.out).trans HS4.out.1)) (Le HS5.out.1) rfl rfl rfl) rfl ?_
    exact ⟨A,c,s,sv,0,rfl,fun _=>⟨HTM9.out,HFIN.out⟩,fun h=>absurd rfl h,HS5.out.2⟩
   ·have hzb:=ib hz
    have HW:=hid (show z≠0/\(NR m.v r.r∨∀ t,¬ GR m.v t r.r) from ⟨hz,Or.inl (HNO.out hz)⟩);clear hz HYES HNO HPRR;have HS4:=hid (rS (sQ none 0 SZ) HK46.out HB6.out HG4.out);have HS5:=hid (rS (sR scZ) ((setRow_other _ _ _ _ HNE.out).trans HK56.out) HS4.out.2 HG5.out)
    go_wp2_with (first | (refine sw (sQ none 0 SZ) HK46.out ?_) | (refine wpList_store_row rfl 41 _ _ rfl h5 (sR scZ) rfl rfl 41 _ ((setRow_other _ _ _ _ HNE.out).trans HK56.out) (by kernel_rfl) rfl (by kernel_rfl) ?_))
    refine bodyPost_ret (re rfl (Lt ((setRow_other _ _ _ _ HNE2.out).trans HS4.out.1)) (Le HS5.out.1) rfl rfl rfl) rfl ?_;exact EE.no HW.out HS5.out.2
end Go.Proofs.YtjcekdiocliddaaGreatDoor

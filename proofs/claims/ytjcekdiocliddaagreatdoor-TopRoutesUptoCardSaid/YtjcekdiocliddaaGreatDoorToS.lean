/- The walk of lorrytop.TopRoutes. (Printed by wip/tk/mkToS.py.) -/
import Derived.Test.YtjcekdiocliddaaGreatDoorToR
import Derived.Test.YtjcekdiocliddaaGreatDoorG83
import Derived.Test.YtjcekdiocliddaaGreatDoorG48
import Derived.Test.YtjcekdiocliddaaGreatDoorG75
namespace Go.Proofs.YtjcekdiocliddaaGreatDoor
open Lib (hid)
open Go.RowKit Num Txt Pf Tk
set_option maxHeartbeats 32000000
set_option maxRecDepth 100000
set_option linter.unusedVariables false
attribute [local go_sem] BS Bg Bt Bm Be Ba
def lp (x:IV) (t:TV) (b:Option Int) (a:LB):Option Int:=match cL x t a,b with
 |none,b=>b
 |some (_,m),none=>some m
 |some (_,m),some l=>some (if m<l then m else l)
theorem lstep_no {x:IV} {t:TV} {b:Option Int} {a:LB} (h:cL x t a=none):lp x t b a=b:=by
 unfold lp;rw [h]
theorem lstep_one {x:IV} {t:TV} {a:LB} {e m:Int} (h:cL x t a=some (e,m)):lp x t none a=some m:=by unfold lp;rw [h]
theorem lstep_two {x:IV} {t:TV} {a:LB} {e m l:Int} (h:cL x t a=some (e,m)):lp x t (some l) a=some (if m<l then m else l):=by unfold lp;rw [h]
theorem rou_eq {r:RV} {k:Int} (h1:r.kind=k) (h2:r.start=0) (h3:r.rests=[]):r=⟨k,0,[],r.vis⟩:=by
 cases r;simp_all
theorem lst_none {x:IV} {t:TV}:∀ L:List LB,(∀ a ∈ L,∀ e m,cL x t a≠some (e,m))->L.foldl (lp x t) none=none
 |[],_=>rfl
 |a :: L,h=>by
  have h1:cL x t a=none:=by
   cases hc:cL x t a with
   |none=>rfl
   |some p=>exact absurd hc (h a (List.mem_cons_self ..) p.1 p.2)
  rw [List.foldl_cons,show lp x t none a=none by unfold lp;rw [h1]];exact lst_none L fun b hb=>h b (List.mem_cons_of_mem _ hb)
theorem lst_from {x:IV} {t:TV}:∀ (L:List LB) (l:Int),∃ n,L.foldl (lp x t) (some l)=some n/\(n=l∨∃ a ∈ L,∃ e,cL x t a=some (e,n))/\n<=l/\∀ a ∈ L,∀ e m,cL x t a=some (e,m)->n<=m
 |[],l=>⟨l,rfl,.inl rfl,Int.le_refl _,fun a h=>absurd h (by simp)⟩
 |a :: L,l=>by
  rw [List.foldl_cons]
  cases hc:cL x t a with
  |none =>
   rw [show lp x t (some l) a=some l by unfold lp;rw [hc]];obtain ⟨n,h1,h2,h3,h4⟩:=lst_from L l
   exact ⟨n,h1,h2.imp id (fun ⟨b,hb,e,h⟩=>⟨b,List.mem_cons_of_mem _ hb,e,h⟩),h3,fun b hb e m h=>by
    rcases List.mem_cons.1 hb with rfl | hb
    ·rw [hc] at h;cases h
    ·exact h4 b hb e m h⟩
  |some p =>
   obtain ⟨pe,pm⟩:=p;rw [show lp x t (some l) a=some (if pm<l then pm else l) by unfold lp;rw [hc]];obtain ⟨n,h1,h2,h3,h4⟩:=lst_from L (if pm<l then pm else l);refine ⟨n,h1,?_,?_,fun b hb e m h=>?_⟩
   ·rcases h2 with h2 | ⟨b,hb,e,h⟩
    ·by_cases hlt:pm<l
     ·rw [if_pos hlt] at h2
      subst h2;exact .inr ⟨a,List.mem_cons_self ..,pe,hc⟩
     ·rw [if_neg hlt] at h2
      exact .inl h2
    ·exact .inr ⟨b,List.mem_cons_of_mem _ hb,e,h⟩
   ·by_cases hlt:pm<l
    ·rw [if_pos hlt] at h3;omega
    ·rw [if_neg hlt] at h3;exact h3
   ·rcases List.mem_cons.1 hb with rfl | hb
    ·rw [hc] at h
     injection h with h
     injection h with _ h
     by_cases hlt:pm<l
     ·rw [if_pos hlt] at h3;omega
     ·rw [if_neg hlt] at h3;omega
    ·exact h4 b hb e m h
theorem lst_some {x:IV} {t:TV} {n:Int}:∀ L:List LB,(∃ a ∈ L,∃ e,cL x t a=some (e,n))->(∀ a ∈ L,∀ e m,cL x t a=some (e,m)->n<=m)->L.foldl (lp x t) none=some n
 |[],⟨a,h,_⟩,_=>absurd h (by simp)
 |a :: L,⟨b,hb,e,hc⟩,hle=>by
  rw [List.foldl_cons]
  cases ha:cL x t a with
  |none =>
   rw [show lp x t none a=none by unfold lp;rw [ha]];refine lst_some L ⟨b,?_,e,hc⟩ fun c h=>hle c (List.mem_cons_of_mem _ h);rcases List.mem_cons.1 hb with rfl | hb
   ·rw [ha] at hc;cases hc
   ·exact hb
  |some p =>
   obtain ⟨pe,pm⟩:=p;rw [show lp x t none a=some pm by unfold lp;rw [ha]];obtain ⟨k,h1,h2,h3,h4⟩:=lst_from (x:=x) (t:=t) L pm;rw [h1]
   have h5:n<=k:=by
    rcases h2 with rfl | ⟨c,hc2,e2,h⟩
    ·exact hle a (List.mem_cons_self ..) pe _ ha
    ·exact hle c (List.mem_cons_of_mem _ hc2) e2 k h
   have h6:k<=n:=by
    rcases List.mem_cons.1 hb with rfl | hb
    ·rw [ha] at hc
     injection hc with hc
     injection hc with _ hc
     omega
    ·exact h4 b hb e n hc
   rw [Int.le_antisymm h6 h5]
def LstV (b:Option Int) (l s:Value):Prop:=match b with
 |none=>l=.int .i64 0/\s=.bool false
 |some n=>l=.int .i64 n/\s=.bool true
theorem LstV.mk (b:Option Int):∃ n f,LstV b (.int .i64 n) (.bool f)/\((f=false/\n=0/\b=none)∨(f=true/\b=some n)):=by
 cases b with
 |none=>exact ⟨0,false,⟨rfl,rfl⟩,.inl ⟨rfl,rfl,rfl⟩⟩
 |some n=>exact ⟨n,true,⟨rfl,rfl⟩,.inr ⟨rfl,rfl⟩⟩
theorem LstV.out {b:Option Int} {l s:Value} (h:LstV b l s):∃ n f,l=.int .i64 n/\s=.bool f/\((f=false/\n=0/\b=none)∨(f=true/\b=some n)):=by
 cases b with
 |none=>exact ⟨0,false,h.1,h.2,.inl ⟨rfl,rfl,rfl⟩⟩
 |some n=>exact ⟨n,true,h.1,h.2,.inr ⟨rfl,rfl⟩⟩
theorem two_i64 {n:Nat} (h:n<=3):IntKind.i64.wrap (2 ^ n)=(2:Int) ^ n:=by
 match n,h with
 |0,_=>rfl
 |1,_=>rfl
 |2,_=>rfl
 |3,_=>rfl
 |n+4,h=>omega
theorem pow_cast (n:Nat):(2:Int) ^ n=((2 ^ n:Nat):Int):=by rw [Int.natCast_pow];rfl
theorem pow_le {s n:Nat} (h:¬ s<2 ^ n):(2:Int) ^ n<=(s:Int):=by rw [pow_cast];omega
theorem pow_not {s n:Nat} (h:s<2 ^ n):¬ (2:Int) ^ n<=(s:Int):=by rw [pow_cast];omega
theorem set_rng {x:IV} {k n:Int} {r:RV} (hok:IK x) (hp:PI x r n) (h1:r.start=0) (h2:r.rests=[]):AP x (sV r.vis)/\r.vis ∈ sF x (sV r.vis) (Ad x (sV r.vis)) []:=by
 obtain ⟨kd,st,rs,vs⟩:=r;simp only at h1 h2;subst h1 h2;exact route_in hok hp
theorem clo_some (c:Option (Int × Int)):∃ ce cn f,cloA c=#[.int .i64 ce,.int .i64 cn,.bool f]/\((c=none/\f=false)∨(c=some (ce,cn)/\f=true)):=by
 rcases c with _ | ⟨ce,cn⟩
 ·exact ⟨0,0,false,rfl,.inl ⟨rfl,rfl⟩⟩
 ·exact ⟨ce,cn,true,rfl,.inr ⟨rfl,rfl⟩⟩
def TrueE (w:World) (e:Ending) (w':World):Prop:=e=.returned (.bool true)/\Below w.heap.size w w'
theorem toproutes_walk (m:IM) (r:RM) (w:World) (hm:IA w m) (hr:Rt w r) (hlen:∀ t ∈ m.arcs,t.a.trav.length<=1048576/\t.a.slow.length<=1048576) (he:Env w) (hT:Tb w) :
  Calls Tryz.prog 4 #[iA m,ro r] w (TrueE w):=by
 obtain ⟨k1,k2,kb⟩:=aL w (.cells (iQ m) 30) (.cells (rR r) 34);have HB:=hid kb;have HK1:=hid k1;have HK2:=hid k2;have HM:=hid (fun w' (hb:Below w.heap.size w w')=>hm.below hb);have HR:=hid (fun w' (hb:Below w.heap.size w w')=>hr.below hb);have HT:=hid (fun w' (hb:Below w.heap.size w w')=>hT.below hb)
 have HAW:=hid (fun w' (hb:Below w.heap.size w w')=>tawake_any w' (he.below hb) (hT.below hb));have HFT:=hid (fits_any m 3 _ (hm.below kb) (by decide) hlen);have hvl:=hr.vl;have hrl:=hr.rl;have htl:=hm.tl;have hol:=hm.ol;unfold maxLen at hvl hrl htl hol;clear hm hr hT he k1 k2 kb hlen;go_enter Tryz.func4,Tryz.ntmps4;(try simp only [Bm]);go_upto_region 1 with fail;rw [iq,rq]
 generalize (w.alloc (.cells (iQ m) 30)).alloc (.cells (rR r) 34)=wa at *;obtain ⟨h1,hh1⟩:∃ h1,h1=w.heap.size:=⟨_,rfl⟩
 obtain ⟨h2,hh2⟩:∃ h2,h2=w.heap.size+1:=⟨_,rfl⟩
 rw [<- hh2] at HK2;rw [<- hh1] at HK1;rw [<- hh2,<- hh1];clear hh1 hh2;go_wp2_with (first | (refine lr HK1.out Tryz.underlying30 ?_) | (refine lr HK2.out Tryz.underlying34 ?_))
 refine HFT.out.mono ?_;rintro e w1 ⟨b,rfl,hok,hb1⟩;have HOKF:=hid hok;have HB1:=hid (bL HB.out hb1);have HK11:=hid (rK HK1.out hb1);have HK21:=hid (rK HK2.out hb1);clear hok hb1 HFT HB HK1 HK2
 cases b with
 |false =>
  go_wp2_with fail;refine (HAW.out w1 HB1.out).mono ?_;rintro e wz ⟨rfl,hbz⟩;have HBZ:=hid (bL HB1.out hbz);clear hbz;go_wp2_with fail;go_ret;exact ⟨rfl,HBZ.out⟩
 |true =>
 have r3:=CX HK21.out 3 (.slice r.C r.r.vis.length r.cc) rfl;have r2:=CX HK21.out 2 (.slice r.A r.r.rests.length r.ca) rfl;have r1:=CX HK21.out 1 (.int .i64 r.r.start) rfl;have r0:=CX HK21.out 0 (.int .i64 r.r.kind) rfl;have y2:=CX HK11.out 2 (.slice m.tA m.types.length m.tc) rfl;by_cases c1:(8:Int)<(r.r.vis.length:Int)
 ·skip
  go_wp2_with fail;refine (HAW.out w1 HB1.out).mono ?_;rintro e wz ⟨rfl,hbz⟩;have HBZ:=hid (bL HB1.out hbz);clear hbz;go_wp2_with fail;go_ret;exact ⟨rfl,HBZ.out⟩
 by_cases c2:r.r.start=0;rotate_left
 ·have c2b:=nf (ib c2)
  clear c2;go_wp2_with fail;refine (HAW.out w1 HB1.out).mono ?_;rintro e wz ⟨rfl,hbz⟩;have HBZ:=hid (bL HB1.out hbz);clear hbz;go_wp2_with fail;go_ret;exact ⟨rfl,HBZ.out⟩
 have c2b:=nN (iB c2);have HST0:=hid c2;clear c2;by_cases c3:0<r.r.rests.length
 ·skip
  go_wp2_with fail;refine (HAW.out w1 HB1.out).mono ?_;rintro e wz ⟨rfl,hbz⟩;have HBZ:=hid (bL HB1.out hbz);clear hbz;go_wp2_with fail;go_ret;exact ⟨rfl,HBZ.out⟩
 have HRS0:=hid (show r.r.rests=[] from List.eq_nil_of_length_eq_zero (by omega));by_cases c4:r.r.kind<0
 ·skip
  go_wp2_with fail;refine (HAW.out w1 HB1.out).mono ?_;rintro e wz ⟨rfl,hbz⟩;have HBZ:=hid (bL HB1.out hbz);clear hbz;go_wp2_with fail;go_ret;exact ⟨rfl,HBZ.out⟩
 by_cases c5:(m.types.length:Int)<=r.r.kind
 ·skip
  go_wp2_with fail;refine (HAW.out w1 HB1.out).mono ?_;rintro e wz ⟨rfl,hbz⟩;have HBZ:=hid (bL HB1.out hbz);clear hbz;go_wp2_with fail;go_ret;exact ⟨rfl,HBZ.out⟩
 have HOK:=hid (HOKF.out rfl).2;have hfew:=(HOKF.out rfl).1.no;have hv8:r.r.vis.length<=8:=by omega
 have HOR:=hid (reorders_any r w1 (HR.out w1 HB1.out) hv8);obtain ⟨k,hk⟩:∃ k:Nat,r.r.kind=(k:Int):=⟨r.r.kind.toNat,by omega⟩
 have hkt:k<m.types.length:=by omega
 have HKD:=hid hk;rw [hk] at r0 c4 c5;clear HOKF hk;go_upto_region 3 with fail;clear r3 r2 r1 r0 y2 c2b;go_wp2_with (first | (refine lr HK11.out Tryz.underlying30 ?_) | (refine lr HK21.out Tryz.underlying34 ?_))
 refine HOR.out.mono ?_;rintro e w2 ⟨sv,z,rfl,hset,hb2⟩;have HSE:=hid hset;have HB2:=hid (bL HB1.out hb2);have HK12:=hid (rK HK11.out hb2);have HK22:=hid (rK HK21.out hb2);clear hset hb2 HOR HB1 HK11 HK21;by_cases hz:z=0;rotate_left
 ·have hzb:=nf (ib hz)
  clear hz;go_wp2_with fail;refine (HAW.out w2 HB2.out).mono ?_;rintro e wz ⟨rfl,hbz⟩;have HBZ:=hid (bL HB2.out hbz);clear hbz;go_wp2_with fail;go_ret;exact ⟨rfl,HBZ.out⟩
 obtain ⟨hrng,hsv⟩:=HSE.out hz;subst hz;subst hsv;clear hrng HSE;obtain ⟨s,hsd⟩:∃ s,s=sV r.r.vis:=⟨_,rfl⟩
 have HS:=hid hsd;rw [<- hsd];clear hsd;by_cases hs0:s=0
 ·have hsb:=iB (show (s:Int)=0 by omega)
  clear hs0;go_wp2_with fail;refine (HAW.out w2 HB2.out).mono ?_;rintro e wz ⟨rfl,hbz⟩;have HBZ:=hid (bL HB2.out hbz);clear hbz;go_wp2_with fail;go_ret;exact ⟨rfl,HBZ.out⟩
 have hsb:=ib (show ¬ (s:Int)=0 by omega);have hs1:0<s:=by omega
 clear hs0;have y3:=CX HK12.out 3 (.slice m.oA m.ords.length m.oc) rfl;have h2w:=two_i64 hfew;go_upto_region 6 with fail;clear hsb;by_cases hsl:s<2 ^ m.ords.length;rotate_left
 ·have hge:(2:Int) ^ m.ords.length<=(s:Int):=pow_le hsl
  go_wp2_with fail;refine (HAW.out w2 HB2.out).mono ?_;rintro e wz ⟨rfl,hbz⟩;have HBZ:=hid (bL HB2.out hbz);clear hbz;go_wp2_with fail;go_ret;exact ⟨rfl,HBZ.out⟩
 have hge:¬ (2:Int) ^ m.ords.length<=(s:Int):=pow_not hsl;go_upto_region 8 with fail;clear hge y3 h2w;have HBE:=hid (bbest_any m k s w2 (HM.out w2 HB2.out) HOK.out hfew (HT.out w2 HB2.out) hkt hsl hs1);have r0:w2.cell? ⟨h2,0,none⟩=some (.int .i64 (k:Int)):=by have h:=CX HK22.out 0 (.int .i64 r.r.kind) rfl;rw [HKD.out] at h;exact h
 go_wp2_with (first | (refine lr HK12.out Tryz.underlying30 ?_) | (refine lr HK22.out Tryz.underlying34 ?_))
 refine HBE.out.mono ?_;rintro e w3 ⟨c,z,rfl,hyes,hno,hb3⟩;have HYES:=hid hyes;have HNO:=hid hno;have HB3:=hid (bL HB2.out hb3);have HK13:=hid (rK HK12.out hb3);have HK23:=hid (rK HK22.out hb3);clear hyes hno hb3 HBE HB2 HK12 HK22 r0
 obtain ⟨_,p4⟩:=Na w3 (.cells #[.int .i64 0,.int .i64 0,.int .i64 0,.int .i64 0,.int .i64 0,.slice none 0 0,.slice none 0 0] 55);obtain ⟨q4,b4⟩:=nS w3 #[.int .i64 0,.int .i64 0,.int .i64 0,.int .i64 0,.int .i64 0,.slice none 0 0,.slice none 0 0] (CR c) 55;go_upto_region 9 with (refine sw (CR c) p4 ?_)
 (try simp only [Act.put]);generalize (w3.alloc (.cells #[.int .i64 0,.int .i64 0,.int .i64 0,.int .i64 0,.int .i64 0,.slice none 0 0,.slice none 0 0] 55)).setRow w3.heap.size (CR c)=w4 at *;obtain ⟨h7,hh7⟩:∃ h7,h7=w3.heap.size:=⟨_,rfl⟩
 rw [<- hh7] at q4;rw [<- hh7];have HQ4:=hid q4;have HB4:=hid (bL HB3.out b4);have HK14:=hid (rK HK13.out b4);have HK24:=hid (rK HK23.out b4);clear p4 q4 b4 hh7 HB3 HK13 HK23;have HPR:=hid (rprice_any m r w4 (HM.out w4 HB4.out) HOK.out hfew (HR.out w4 HB4.out) hv8 (HT.out w4 HB4.out))
 go_wp2_with (first | (refine lr HK14.out Tryz.underlying30 ?_) | (refine lr HK24.out Tryz.underlying34 ?_))
 refine HPR.out.mono ?_;rintro e w5 ⟨n,kk,rfl,hpy,_,hb5⟩;have HPY:=hid hpy;have HB5:=hid (bL HB4.out hb5);have HK15:=hid (rK HK14.out hb5);have HK25:=hid (rK HK24.out hb5);have HQ5:=hid (rK HQ4.out hb5);clear hpy hb5 HPR HB4 HK14 HK24 HQ4
 have HNR:=hid (show kk=0->z=0/\c.price<=n from fun h=>by
  have hp:=HPY.out h;obtain ⟨h1,h2⟩:=set_rng (k:=(k:Int)) HOK.out hp HST0.out HRS0.out
  have hpi:PI m.v ⟨(k:Int),0,[],r.r.vis⟩ n:=by
   rw [rou_eq HKD.out HST0.out HRS0.out] at hp;exact hp
  rw [<- HS.out] at h1 h2;by_cases hz:z=0
  ·exact ⟨hz,(HYES.out hz).2.least _ h2 _ hpi⟩
  ·exact ((HNO.out hz).elim (fun h=>h h1) (fun h=>h _ h2 _ hpi)).elim)
 clear HPY;go_upto_region 10 with fail;go_cut [97] (fun b wx=>b=.bool false/\Below w5.heap.size w5 wx)
 case first =>
  have q2:=CX HQ5.out 2 (.int .i64 c.price) rfl;by_cases hkk:kk=0
  ·have h1:=HNR.out hkk
   have hkb:=iB hkk;have hzb:=nN (iB h1.1);have hpn:¬ n<c.price:=by omega
   clear h1 hkk HNR;go_wp2_with fail;go_meet;exact ⟨rfl,Below.refl _ _⟩
  ·have hkb:=ib hkk
   clear hkk HNR;go_wp2_with fail;go_meet;exact ⟨rfl,Below.refl _ _⟩
 case rest =>
  rename World=>w6;obtain ⟨rfl,hb6⟩:=hcut;have HB6:=hid (bL HB5.out hb6);have HK16:=hid (rK HK15.out hb6);have HK26:=hid (rK HK25.out hb6);have HQ6:=hid (rK HQ5.out hb6);clear hb6 HB5 HK15 HK25 HQ5 HNR;have HEN:=hid (lends_any m k s w6 (HM.out w6 HB6.out) HOK.out hfew (HT.out w6 HB6.out) hkt hsl hs1)
  have r0:w6.cell? ⟨h2,0,none⟩=some (.int .i64 (k:Int)):=by have h:=CX HK26.out 0 (.int .i64 r.r.kind) rfl;rw [HKD.out] at h;exact h
  go_wp2_with (first | (refine lr HK16.out Tryz.underlying30 ?_) | (refine lr HK26.out Tryz.underlying34 ?_))
  refine HEN.out.mono ?_;rintro e w7 ⟨A,cc,ms,z2,rfl,hls,hgd,heq,hz2,hml,hb7⟩;have HLS:=hid hls;have HGD:=hid hgd;have HEQ:=hid heq;have hcap:=OR.cap hls.row;have HB7:=hid (bL HB6.out hb7);have HK17:=hid (rK HK16.out hb7);have HQ7:=hid (rK HQ6.out hb7);unfold maxLen at hcap;clear hls hgd heq hb7 HEN HB6 HK16 HK26 HQ6 r0;rcases hz2 with rfl | rfl
  rotate_left
  ·skip
   go_wp2_with fail;refine (HAW.out w7 HB7.out).mono ?_;rintro e wz ⟨rfl,hbz⟩;have HBZ:=hid (bL HB7.out hbz);clear hbz;go_wp2_with fail;go_ret;exact ⟨rfl,HBZ.out⟩
  obtain ⟨heq1,heq2⟩:=HEQ.out rfl
  have HFIN:=hid (show (z=0/\(ms.map (·.l)).foldl (lp m.v m.types[k].t) none=some c.price)∨(z≠0/\(ms.map (·.l)).foldl (lp m.v m.types[k].t) none=none) from by
   have hsv:s<2 ^ m.v.ords.length:=by rw [oL];exact hsl
   by_cases hz:z=0
   ·obtain ⟨ha,hb⟩:=HYES.out hz
    obtain ⟨h1,h2⟩:=least_yes (set_ok HOK.out hsv hs1 ha hkt) hb;rw [heq1 ha];exact .inl ⟨hz,lst_some _ h1 h2⟩
   ·refine .inr ⟨hz,?_⟩
    by_cases ha:AP m.v s
    ·rw [heq1 ha]
     exact lst_none _ (least_no (set_ok HOK.out hsv hs1 ha hkt) ((HNO.out hz).elim (fun h=>absurd ha h) id))
    ·rw [heq2 ha];rfl)
  have HCLO:=hid (fun (a:Lb) w' (hb:Below w.heap.size w w') (ha:LG m k m.types[k].t a) (hat:Ah w' a)=>lclose_any m k a w' (HM.out w' hb) HOK.out hfew (HT.out w' hb) hkt ha.1 hat ha.2.1 ha.2.2);clear heq1 heq2 HEQ HYES HNO;go_wp2_with fail
  go_loopw [13,14,15,16,17,18] (fun ls sm i _ _ _ wr=>∃ j:Nat,j<=ms.length/\i=.int .i64 j/\LstV (((ms.map (·.l)).take j).foldl (lp m.v m.types[k].t) none) ls sm/\Below w7.heap.size w7 wr) (fun _ _ i _ _ _ _=>ms.length - (intOf i).toNat)
  case atStart=>exact ⟨0,Nat.zero_le _,rfl,⟨rfl,rfl⟩,Below.refl _ _⟩
  case round =>
   obtain ⟨j,hj,rfl,hlv,hbel⟩:=hrel;have HBL:=hid hbel;have HB:=hid (bL HB7.out hbel);obtain ⟨nn,ff,rfl,rfl,hcase⟩:=hlv.out;have HCS:=hid hcase;clear hlv hbel hcase;by_cases hlt:j<ms.length
   ·have hlt1:(j:Int)<(ms.length:Int):=by omega
    have HLR:=hid (HLS.out.below HBL.out);obtain ⟨g1,o1,hA1,hg1,hx1⟩:=eP Lb.cells_len (by decide) (OR.cells HLR.out.row) (by omega);have HXC:=hid (fun jj v h=>hx1 j hlt jj v h);have HAT:=hid (HLR.out.each _ (List.getElem_mem hlt));have HGA:=hid (HGD.out _ (List.getElem_mem hlt))
    have HTK:=hid (show ((ms.map (·.l)).take (j+1)).foldl (lp m.v m.types[k].t) none=lp m.v m.types[k].t (((ms.map (·.l)).take j).foldl (lp m.v m.types[k].t) none) ms[j].l by
     rw [fT (show j<(ms.map (·.l)).length by rw [List.length_map];exact hlt),List.getElem_map])
    have HKR:=hid (rK HK17.out HBL.out);rw [hA1];clear hx1 hA1;obtain ⟨u,hu⟩:∃ u,u=ms[j]:=⟨_,rfl⟩
    rw [<- hu] at HXC HAT HGA HTK;clear hu;go_upto_region 19 with fail;have hd:Below wr.heap.size wr wr.drew:=(Below.refl _ wr).drew;have hS0:(fun w'=>Below wr.heap.size wr w') wr.drew:=hd;have HCL:=hid (HCLO.out u wr.drew HB.out.drew HGA.out (HAT.out.below hd));refine wp_region_held_drew (S:=fun w'=>Below wr.heap.size wr w') (by kernel_rfl) hS0 (fun _=>?_)
    refine tkr 0 Tryz.underlying30 (fun w hSw=>rK HKR.out hSw) ?_;refine tk 1 ?_;refine tk 2 ?_;refine tk 3 ?_;(try simp only [Act.put,P1,pu,P3]);refine tkl 4 u.cells Tryz.underlying65 (fun w hSw=>fun jj v h=>(hSw.cell (p:=⟨g1,o1+j*9+jj,none⟩) hg1).trans (HXC.out jj v h)) ?_;(try simp only [Act.put,P1,pu,P3]);refine one 5 (fun K hK=>?_);go_simp;refine HCL.out.mono ?_
    rintro e w8 ⟨rfl,hb8d⟩;obtain ⟨ce,cn,cf,hca,hcc⟩:=clo_some (cL m.v m.types[k].t u.l);have HCC:=hid hcc;rw [hca];clear hca hcc;have hb8:Below wr.heap.size wr w8:=bL hd hb8d;refine hK.out _ _ (hb8) (fun _=>?_);clear hK K;refine tk 6 ?_;refine tk 7 ?_;refine tk 8 ?_;refine tk 9 ?_;(try simp only [Act.put,P1,pu,P3]);refine tk 10 ?_;refine tk 11 ?_;refine tk 12 ?_
    (try simp only [Act.put,P1,pu,P3]);refine wpAnyH_done (by kernel_rfl) ?_ _;clear HCL hd hS0;have HB8:=hid (bL HBL.out hb8);clear hb8;rcases HCC.out with ⟨hcl,rfl⟩ | ⟨hcl,rfl⟩
    ·have HL:=hid (show LstV (((ms.map (·.l)).take (j+1)).foldl (lp m.v m.types[k].t) none) (.int .i64 nn) (.bool ff) by
      rw [HTK.out,lstep_no hcl];rcases HCS.out with ⟨rfl,rfl,h⟩ | ⟨rfl,h⟩ <;> rw [h] <;> exact ⟨rfl,rfl⟩)
     clear hcl HCS HCC;go_wp2_with fail;go_roundw
     case rel=>exact ⟨j+1,by omega,by go_num,HL.out,HB8.out⟩
     case measure=>simp [intOf];omega
    ·rcases HCS.out with ⟨rfl,rfl,h⟩ | ⟨rfl,h⟩
     ·have HL:=hid (show LstV (((ms.map (·.l)).take (j+1)).foldl (lp m.v m.types[k].t) none) (.int .i64 cn) (.bool true) by
       rw [HTK.out,h,lstep_one hcl];exact ⟨rfl,rfl⟩)
      clear hcl HCS HCC h;go_wp2_with fail;go_roundw
      case rel=>exact ⟨j+1,by omega,by go_num,HL.out,HB8.out⟩
      case measure=>simp [intOf];omega
     ·by_cases hcn:cn<nn
      ·have HL:=hid (show LstV (((ms.map (·.l)).take (j+1)).foldl (lp m.v m.types[k].t) none) (.int .i64 cn) (.bool true) by
        rw [HTK.out,h,lstep_two hcl,if_pos hcn];exact ⟨rfl,rfl⟩)
       clear hcl HCS HCC h;go_wp2_with fail;go_roundw
       case rel=>exact ⟨j+1,by omega,by go_num,HL.out,HB8.out⟩
       case measure=>simp [intOf];omega
      ·have HL:=hid (show LstV (((ms.map (·.l)).take (j+1)).foldl (lp m.v m.types[k].t) none) (.int .i64 nn) (.bool true) by
        rw [HTK.out,h,lstep_two hcl,if_neg hcn];exact ⟨rfl,rfl⟩)
       clear hcl HCS HCC h;go_wp2_with fail;go_roundw
       case rel=>exact ⟨j+1,by omega,by go_num,HL.out,HB8.out⟩
       case measure=>simp [intOf];omega
   ·have hlt1:¬ (j:Int)<(ms.length:Int):=by omega
    have HQR:=hid (rK HQ7.out HBL.out);have q2:=CX HQR.out 2 (.int .i64 c.price) rfl;have hall:(ms.map (·.l)).take j=ms.map (·.l):=List.take_of_length_le (by rw [List.length_map];omega);have hcs:=HCS.out;rw [hall] at hcs;generalize wr=wo at *;rcases HFIN.out with ⟨hz,hf⟩ | ⟨hz,hf⟩
    ·rw [hf] at hcs
     obtain ⟨rfl,hnn⟩:ff=true/\nn=c.price:=by
      rcases hcs with ⟨_,_,h⟩ | ⟨h1,h2⟩
      ·cases h
      ·injection h2 with h2;exact ⟨h1,h2.symm⟩
     have hzb:=iB hz;have hnb:=iB hnn;clear hz hf hcs hnn hall HCS HFIN;go_wp2_with fail;refine (HAW.out wo HB.out).mono ?_;rintro e wz ⟨rfl,hbz⟩;have HBZ:=hid (bL HB.out hbz);clear hbz;go_wp2_with fail;go_ret;exact ⟨rfl,HBZ.out⟩
    ·rw [hf] at hcs
     obtain ⟨rfl,rfl⟩:ff=false/\nn=0:=by
      rcases hcs with ⟨h1,h2,_⟩ | ⟨_,h⟩
      ·exact ⟨h1,h2⟩
      ·cases h
     have hzb:=ib hz;clear hz hf hcs hall HCS HFIN;go_wp2_with fail;refine (HAW.out wo HB.out).mono ?_;rintro e wz ⟨rfl,hbz⟩;have HBZ:=hid (bL HB.out hbz);clear hbz;go_wp2_with fail;go_ret;exact ⟨rfl,HBZ.out⟩
end Go.Proofs.YtjcekdiocliddaaGreatDoor

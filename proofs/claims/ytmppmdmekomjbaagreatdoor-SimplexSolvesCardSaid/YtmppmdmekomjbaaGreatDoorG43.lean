/- lorryref26: run ends, by the rule of the least index. -/
import Derived.Test.YtmppmdmekomjbaaGreatDoorG45
import Derived.Test.YtmppmdmekomjbaaGreatDoorG42
import Derived.Test.YtmppmdmekomjbaaGreatDoorG34
import Derived.Deep.LoopGhost
import Derived.Test.YtmppmdmekomjbaaGreatDoorSxKf
import Derived.Test.YtmppmdmekomjbaaGreatDoorG35
import Derived.Deep.RegionHeld3
import Derived.Test.YtmppmdmekomjbaaGreatDoorG44
import Derived.Test.YtmppmdmekomjbaaGreatDoorG41
import Derived.Test.YtmppmdmekomjbaaGreatDoorG36
namespace Go.Proofs.YtmppmdmekomjbaaGreatDoor
open Go.RowKit Num
set_option linter.unusedVariables false
attribute [local go_sem] B_size B_get B_toList B_mk B_extract B_append
attribute [local go_sem high] run_max2
set_option maxHeartbeats 8000000 in
set_option maxRecDepth 100000 in
theorem rxrun_any {D d m vars ci:Nat} {R:Nat→Nat→Int} {bs:List Nat} {tv:List Bool} {vs:List VecV} {T:Mx} {H:KH} {J:Mx→(Nat→Nat)→Prop} (hd1:1≤d) (hd:∀ s,s<m+1→∀ c,c<ci+m+2→dl (R s c)≤d) (hg:gr m d≤D) (hD:3*D+1≤4096)
  (hJ:∀ T b c r,Feas m (ci+m+2) ci (ci+m) (ci+m+1) R T b→J T b→Piv1 m ci (ci+m) T b c r→J (pivM T r c) (fun l=>if l=r then c else b l))
  (hE:SxE D m ci R (rtx vs) bs T) (hF:Feas m (ci+m+2) ci (ci+m) (ci+m+1) R T (bOf bs m (ci+m+1))) (hJ0:J T (bOf bs m (ci+m+1))) (Bs:Nat) (w:World)
  (hS:SxK w Bs H vars ci vs bs tv) (hk:ci+m+1≤1000) (hm:m≤400) :
  Calls Tryz.prog 36 #[.pointer (some ⟨H.kt,0,none⟩),.int .i64 ci] w fun e w'=>∃ (f:Int) (vs':List VecV) (bs':List Nat) (T':Mx),e=.returned (.int .i64 f)∧SxK w' Bs H vars ci vs' bs' tv∧PhEnd D m ci R J (rtx vs') bs' T' f∧BlN Bs w w':=by
 have HPV:=Lib.hid (fun (E:List (List Str)) (bs:List Nat) (T:Mx) (hE:SxE D m ci R E bs T) (r c:Nat) (hr:r<m) (hc:c<ci) (hne:cellM E r c≠[48])=>hE.pivot hd1 hd hg hD hr hc hne)
 have HJ:=Lib.hid hJ
 have HS0:=Lib.hid (show PhS D m ci R J (rtx vs) bs T 0 from ⟨hE,Steps.zero hF,hJ0⟩)
 have HD:=Lib.hid hD
 clear hE hF hJ0 hJ hd hg hD
 go_enter Tryz.func36,Tryz.ntmps36
 go_wp2_with fail
 go_loopg [4,5,6,7,8] ((ci+m+2) ^ m) (fun g _ _ _ _ _ wr=>∃ (K:Nat) (vs':List VecV) (bs':List Nat) (T':Mx),K+g=(ci+m+2) ^ m∧SxK wr Bs H vars ci vs' bs' tv∧PhS D m ci R J (rtx vs') bs' T' K∧BlN Bs w wr)
 case atStart=>exact ⟨0,vs,bs,T,Nat.zero_add _,hS,HS0.out,BlN.refl _ _⟩
 case round =>
  clear hS HS0
  obtain ⟨K,vs2,bs2,T2,hK,hS,hP,hb0⟩:=hrel
  obtain ⟨wa,hwa⟩:∃ wa,wa=wr:=⟨wr,rfl⟩
  subst hwa
  have HKK:=Lib.hid hK
  clear hK
  have hlen:=hP.ent.len
  have hvl:vs2.length=m+1:=by rw [← rtx_length];exact hlen
  have hbl:=hP.ent.blen
  have hkt:=hS.lt
  have hktB:=hS.base
  have c5:=hS.cell 5
  obtain ⟨gA,br,ro,cl,hcl1,hcl2,hsay⟩:=hS.sayA (i:=m) (by omega) (by rw [(hP.ent.mat.row (i:=m) (by omega)).1];omega)
  rw [(hP.ent.mat.row (i:=m) (by omega)).1] at hcl1 hsay
  unfold maxLen at hcl2
  have c3:=hS.cell 3
  rw [hbl] at c3
  have hcapB:=hS.part.bas.cap
  have hcapA:=hS.part.outer.cap
  unfold maxLen at hcapB hcapA
  rw [hbl] at hcapB
  rw [hvl] at hcapA
  have HSY:=Lib.hid hsay
  obtain ⟨y0,y1,_⟩:=hsay wa (Below.refl _ _)
  rw [hvl] at y0
  have hN:m<m+1:=by omega
  have HS:=Lib.hid hS
  have HP:=Lib.hid hP
  clear hS hP hsay
  go_upto_region 2 with fail
  go_region
  all_goals
   obtain ⟨wo,hwo⟩:∃ wo,wo=wa.drew:=⟨wa.drew,rfl⟩
   have HBD:=Lib.hid (show Below wa.heap.size wa wo by rw [hwo];exact below_drew (Below.refl _ _))
   rw [← hwo]
   clear hwo y0 y1 c3 c5
  go_wp2_with fail
  go_loopw [6,7] (fun q i wx=>∃ (j:Nat) (qi:Int),j≤ci∧i=.int .i64 j∧q=.int .i64 qi∧((qi = -1∧∀ l,l<j→0≤T2 m l)∨∃ c:Nat,qi=c∧c<ci∧T2 m c<0∧∀ l,l<c→0≤T2 m l)∧Below wa.heap.size wa wx) (fun q i _=>ci - (intOf i).toNat)
  case atStart=>exact ⟨0,-1,Nat.zero_le _,rfl,rfl,.inl ⟨rfl,fun l hl=>absurd hl (Nat.not_lt_zero _)⟩,HBD.out⟩
  case round =>
   clear HBD
   obtain ⟨j,qi,hj,rfl,rfl,hq,hbx⟩:=hrel
   obtain ⟨y0,y1,y2⟩:=HSY.out wr hbx
   rcases hq with ⟨rfl,hall⟩ | ⟨c,rfl,hc,hneg,hpre⟩
   ·have HALL:=Lib.hid hall
    clear hall
    by_cases hlt2:j<ci
    ·have hcm:=HP.out.ent.mat.cell (i:=m) (c:=j) (by omega) (by omega)
     have hl1:=frx_len hcm
     have hsg:=signQ_rat (hcm.right (by have:=HD.out;omega) (by have:=HD.out;omega))
     rw [← HP.out.ent.val m (by omega) j (by omega)] at hsg
     have dp:=y2 j (by omega)
     have HSG:=Lib.hid (rqsign_any (cellM (rtx vs2) m j) wr (by have:=HD.out;omega))
     have HSI:=Lib.hid hsg
     clear hcm hl1 hsg y2
     by_cases hneg:T2 m j<0
     ·have hs1:signQ (cellM (rtx vs2) m j)<0:=HSI.out.1.2 hneg
      have HNEG:=Lib.hid hneg
      clear hneg
      generalize signQ (cellM (rtx vs2) m j)=sg at *
      generalize cellM (rtx vs2) m j=a at *
      go_wp2_with fail
      refine HSG.out.mono ?_
      rintro e w2 ⟨rfl,hb2⟩
      go_wp2_with fail
      go_roundw
      case rel=>exact ⟨j+1,j,by omega,by go_num,rfl,.inr ⟨j,rfl,hlt2,HNEG.out,HALL.out⟩,below_lift3 hbx hb2⟩
      case measure=>simp [intOf];omega
     ·have hs1:¬ signQ (cellM (rtx vs2) m j)<0:=fun h=>hneg (HSI.out.1.1 h)
      have HN:=Lib.hid (show ∀ l,l<j+1→0≤T2 m l from fun l hl=>by
       by_cases e:l=j
       ·rw [e];grind
       ·exact HALL.out l (by omega))
      clear hneg
      generalize signQ (cellM (rtx vs2) m j)=sg at *
      generalize cellM (rtx vs2) m j=a at *
      go_wp2_with fail
      refine HSG.out.mono ?_
      rintro e w2 ⟨rfl,hb2⟩
      go_wp2_with fail
      go_roundw
      case rel=>exact ⟨j+1,-1,by omega,by go_num,rfl,.inl ⟨rfl,HN.out⟩,below_lift3 hbx hb2⟩
      case measure=>simp [intOf];omega
    ·have hjc:j=ci:=by omega
     have hjx:¬ (j:Int)<(ci:Int):=by omega
     have HX:=Lib.hid (show PhEnd D m ci R J (rtx vs2) bs2 T2 (-1) from ⟨HP.out.ent,HP.out.steps.feas (by omega),HP.out.inv,.inl ⟨rfl,fun l hl=>HALL.out l (by omega)⟩⟩)
     have hS3:=HS.out.below hbx
     have hbf:=hb0.snoc hbx (show Bs≤wa.heap.size by omega)
     clear hjc y2
     go_wp2_with fail
     go_ret
     first | exact ⟨-1,vs2,bs2,T2,rfl,hS3,HX.out,hbf⟩ | exact ⟨-1,rfl,vs2,bs2,hS3,⟨T2,HX.out⟩,hbf⟩ | exact ⟨-1,rfl,vs2,bs2,T2,hS3,HX.out,hbf⟩ | exact ⟨-1,rfl,⟨vs2,bs2,hS3,⟨T2,HX.out⟩⟩,hbf⟩
   ·have HNEG:=Lib.hid hneg
    have HPRE:=Lib.hid hpre
    have hS2:=HS.out.below hbx
    have HS2:=Lib.hid hS2
    have HLV:=Lib.hid (rxleaves_any HP.out.ent HD.out Bs wr hS2 hc hk (by omega))
    have hcn:¬ (c:Int)<0:=by omega
    clear hneg hpre hS2 y2
    by_cases hlt2:j<ci
    ·have hjI:(j:Int)<(ci:Int):=by omega
     go_wp2_with fail
     refine HLV.out.mono ?_
     rintro e w3 ⟨f,rfl,hf,hb3⟩
     have hbx3:=below_lift3 hbx hb3
     rcases hf with ⟨rfl,hno⟩ | ⟨r,rfl,hr⟩
     ·have HX:=Lib.hid (show PhEnd D m ci R J (rtx vs2) bs2 T2 c from ⟨HP.out.ent,HP.out.steps.feas (by omega),HP.out.inv,.inr ⟨c,rfl,hc,HNEG.out,fun l hl=>by have:=hno l hl;grind⟩⟩)
      have hS3:=HS2.out.below hb3
      clear hno
      go_wp2_with fail
      go_ret
      exact ⟨c,vs2,bs2,T2,rfl,hS3,HX.out,hb0.snoc hbx3 (by omega)⟩
     ·have hrm:=hr.1
      have hpv:=lv_piv hc HNEG.out HPRE.out hr
      have hne:cellM (rtx vs2) r c≠[48]:=fun e=>by
       have h1:=HP.out.ent.val r (by omega) c (by omega)
       rw [e,rq_zero] at h1
       have:=hr.2.1
       rw [h1] at this
       exact absurd this (by decide)
      obtain ⟨hO,hE2⟩:=HPV.out (rtx vs2) bs2 T2 HP.out.ent r c hrm hc hne
      have HPC2:=Lib.hid (rxpivot_any (row:=r) (col:=c) hO HD.out Bs w3 (HS2.out.below hb3) rfl (by omega) (by omega) (by omega) (by omega))
      have hKlt:=HP.out.steps.lt (by omega) (by omega)
      have HN:=Lib.hid (show PhS D m ci R J (clearM (rtx vs2) r c) (bs2.set r c) (pivM T2 r c) (K+1) from ⟨hE2,by rw [bOf_set HP.out.ent.blen hrm];exact HP.out.steps.succ hpv,by rw [bOf_set HP.out.ent.blen hrm];exact HJ.out _ _ _ _ (HP.out.steps.feas (by omega)) HP.out.inv hpv⟩)
      have HGK:=Lib.hid (show gk - 1<gk∧K+1+(gk - 1)=(ci+m+2) ^ m by have:=HKK.out;omega)
      have hrn:¬ (r:Int)<0:=by omega
      clear hr hpv hne hO hE2 hKlt
      go_wp2_with fail
      refine HPC2.out.mono ?_
      rintro e w4 ⟨rfl,⟨vs3,hrt3,hS4⟩,hb4⟩
      go_wp2_with fail
      go_roundg (gk - 1)
      case measure=>exact HGK.out.1
      case rel=>exact ⟨K+1,vs3,_,_,HGK.out.2,hS4,by rw [hrt3];exact HN.out,(hb0.snoc hbx3 (by omega)).trans hb4⟩
    ·have hjI:¬ (j:Int)<(ci:Int):=by omega
     go_wp2_with fail
     refine HLV.out.mono ?_
     rintro e w3 ⟨f,rfl,hf,hb3⟩
     have hbx3:=below_lift3 hbx hb3
     rcases hf with ⟨rfl,hno⟩ | ⟨r,rfl,hr⟩
     ·have HX:=Lib.hid (show PhEnd D m ci R J (rtx vs2) bs2 T2 c from ⟨HP.out.ent,HP.out.steps.feas (by omega),HP.out.inv,.inr ⟨c,rfl,hc,HNEG.out,fun l hl=>by have:=hno l hl;grind⟩⟩)
      have hS3:=HS2.out.below hb3
      clear hno
      go_wp2_with fail
      go_ret
      exact ⟨c,vs2,bs2,T2,rfl,hS3,HX.out,hb0.snoc hbx3 (by omega)⟩
     ·have hrm:=hr.1
      have hpv:=lv_piv hc HNEG.out HPRE.out hr
      have hne:cellM (rtx vs2) r c≠[48]:=fun e=>by
       have h1:=HP.out.ent.val r (by omega) c (by omega)
       rw [e,rq_zero] at h1
       have:=hr.2.1
       rw [h1] at this
       exact absurd this (by decide)
      obtain ⟨hO,hE2⟩:=HPV.out (rtx vs2) bs2 T2 HP.out.ent r c hrm hc hne
      have HPC2:=Lib.hid (rxpivot_any (row:=r) (col:=c) hO HD.out Bs w3 (HS2.out.below hb3) rfl (by omega) (by omega) (by omega) (by omega))
      have hKlt:=HP.out.steps.lt (by omega) (by omega)
      have HN:=Lib.hid (show PhS D m ci R J (clearM (rtx vs2) r c) (bs2.set r c) (pivM T2 r c) (K+1) from ⟨hE2,by rw [bOf_set HP.out.ent.blen hrm];exact HP.out.steps.succ hpv,by rw [bOf_set HP.out.ent.blen hrm];exact HJ.out _ _ _ _ (HP.out.steps.feas (by omega)) HP.out.inv hpv⟩)
      have HGK:=Lib.hid (show gk - 1<gk∧K+1+(gk - 1)=(ci+m+2) ^ m by have:=HKK.out;omega)
      have hrn:¬ (r:Int)<0:=by omega
      clear hr hpv hne hO hE2 hKlt
      go_wp2_with fail
      refine HPC2.out.mono ?_
      rintro e w4 ⟨rfl,⟨vs3,hrt3,hS4⟩,hb4⟩
      go_wp2_with fail
      go_roundg (gk - 1)
      case measure=>exact HGK.out.1
      case rel=>exact ⟨K+1,vs3,_,_,HGK.out.2,hS4,by rw [hrt3];exact HN.out,(hb0.snoc hbx3 (by omega)).trans hb4⟩
def cstI (cs:List Int) (k:Nat):Int:=cs.getD k 0
theorem dl_get {cs:List Int} {d k:Nat} (h:∀ n ∈ cs,dl n≤d) (hd:1≤d):dl (cstI cs k)≤d:=by
 unfold cstI
 rw [List.getD_eq_getElem?_getD]
 by_cases e:k<cs.length
 ·rw [List.getElem?_eq_getElem e];exact h _ (List.getElem_mem e)
 ·rw [List.getElem?_eq_none (by omega)];exact Nat.le_trans (dl_small (.inl rfl)) hd
theorem prp_first {D1 j:Nat} {cs:List Int} {T:Mx} {b:Nat→Nat} (h:∀ n ∈ cs,dl n≤5):PrP D1 (fun k=>((cstI cs k:Int):Rat)) T b 0 j (decI (cstI cs j)):=by
 refine ⟨(int_fr (dl_get h (by omega))).mono (by omega) (by omega),?_⟩
 rw [rq_int]
 show _=_ - (0:Rat)
 grind
set_option maxHeartbeats 8000000 in
set_option maxRecDepth 100000 in
theorem rxprice_any {m N0 D1 vars aux:Nat} {bs:List Nat} {tv:List Bool} {vs:List VecV} {H:KH} {T:Mx} (cs:List Int) (C:Option Addr) (cc:Nat) (Bs:Nat) (w:World)
  (hS:SxK w Bs H vars aux vs bs tv) (hbl:bs.length=m) (hvl:m≤vs.length) (hrow:∀ i,i<m→((rtx vs).getD i []).length=N0+1) (hfr:∀ i,i<m→∀ j,j<N0+1→FrD D1 D1 (cellM (rtx vs) i j)) (hT:∀ i,i<m→∀ j,j<N0+1→T i j=rq (cellM (rtx vs) i j)) (hbx:∀ x ∈ bs,x<N0)
  (hC:Cells w C (ints cs)) (hcl:cs.length=N0) (hcc:N0≤cc∧cc≤maxLen) (hcs:∀ n ∈ cs,dl n≤5) (hN:N0≤1000) (hm:m≤300) (hv:vs.length≤500) (hD:8+(D1+6)*m≤4096) :
  Calls Tryz.prog 35 #[.pointer (some ⟨H.kt,0,none⟩),.slice C N0 cc] w fun e w'=>e=.returned (.tuple #[])∧(∃ (H':KH) (vs':List VecV) (pr:List Str),H'.kt=H.kt∧SxK w' Bs H' vars aux vs' bs tv∧rtx vs'=(rtx vs).take m ++ [pr]∧TxL (N0+1) (PrP D1 (fun k=>((cstI cs k:Int):Rat)) T (fun l=>bs.getD l 0) m) pr)∧BlN Bs w w':=by
 unfold maxLen at hcc
 have HS:=Lib.hid hS
 have HC:=Lib.hid hC
 have HT:=Lib.hid hT
 have HFR:=Lib.hid hfr
 have HROW:=Lib.hid hrow
 have HBX:=Lib.hid hbx
 have HCS:=Lib.hid hcs
 have HBL:=Lib.hid hbl
 have HD:=Lib.hid hD
 have hkt:=hS.lt
 have hktB:=hS.base
 have hcapA:=hS.part.outer.cap
 have hcapB:=hS.part.bas.cap
 unfold maxLen at hcapA hcapB
 have x3:=hS.cell 3
 rw [hbl] at x3 hcapB
 have HSZ:=Lib.hid (show Bs≤w.heap.size by omega)
 have hWI:(N0:Int)+1=((N0+1:Nat):Int):=by omega
 generalize hne:N0+1=N at *
 have HNE:=Lib.hid hne
 have hNb:N0<N:=by omega
 have hN2:N≤1001:=by omega
 have wn:=wrap_nat (n:=N) (by omega)
 clear hS hC hT hfr hrow hbx hcs hbl hD hne
 go_enter Tryz.func35,Tryz.ntmps35
 go_wp2_with (refine wp_mkn el_mrat rfl _ _ rfl w.heap.size _ .i64 .i64 _ _ N rfl rfl rfl rfl (by omega) (by unfold maxLen;omega) (Nat.le_refl _) rfl ?_;intro X0 wA hown0 hbA)
 obtain ⟨gx,e,hgx1,_,_,_⟩:=hown0.at_ (by omega)
 subst e
 have HGX:=Lib.hid hgx1
 have HST:=Lib.hid (show ∃ xs:List Str,OwnS wA w.heap.size 29 (some ⟨gx,0,none⟩) N N (strs xs)∧TxL N (fun x s=>x<0→PrP D1 (fun k=>((cstI cs k:Int):Rat)) T (fun l=>bs.getD l 0) m x s) xs from ⟨List.replicate N [],by rw [← strs_rep];exact hown0,by simp,fun x _ h=>absurd h (Nat.not_lt_zero _)⟩)
 clear hown0 hgx1 x3
 go_loopw [6,7] (fun i _ wr=>∃ (j:Nat) (xs:List Str),j≤N∧i=.int .i64 j∧OwnS wr w.heap.size 29 (some ⟨gx,0,none⟩) N N (strs xs)∧TxL N (fun x s=>x<j→PrP D1 (fun k=>((cstI cs k:Int):Rat)) T (fun l=>bs.getD l 0) m x s) xs∧Below w.heap.size w wr) (fun i _ _=>N - (intOf i).toNat)
 case atStart =>
  obtain ⟨xs,h1,h2⟩:=HST.out
  exact ⟨0,xs,Nat.zero_le _,rfl,h1,h2,hbA⟩
 case round =>
  clear HST hbA
  obtain ⟨j,xs,hj,rfl,hown,htx,hb⟩:=hrel
  have HOW:=Lib.hid hown
  have HTX:=Lib.hid htx
  have HBO:=Lib.hid hb
  by_cases hlj:j<N
  ·obtain ⟨g1,e,_,hgw,hgc,hgf⟩:=hown.at_ (by omega)
   obtain rfl:gx=g1:=by injection e with e;injection e with e _ _
   have d0:=hgc j hlj
   rw [strs_get _ _ (by rw [htx.1];exact hlj)] at d0
   have d1:=hgf j
   clear hgc hgf hown htx hb
   generalize xs.getD j []=u0 at *
   go_upto_if 29 with fail
   have hown1:=HOW.out.stored j (.string (B [48]))
   rw [strs_set] at hown1
   have hb1:=HBO.out.setCell HGX.out (.string (B [48])) (p:=⟨gx,j,none⟩)
   have HO1:=Lib.hid hown1
   have HB1:=Lib.hid hb1
   have hgw1:gx<(wr.setCell ⟨gx,j,none⟩ (.string (B [48]))).heap.size:=by rw [World.size_setCell];exact hgw
   clear d0 d1 hown1 hb1
   generalize wr.setCell ⟨gx,j,none⟩ (.string (B [48]))=w1 at *
   go_cut [] (fun wx=>(∃ xs':List Str,OwnS wx w.heap.size 29 (some ⟨gx,0,none⟩) N N (strs xs')∧TxL N (fun x s=>(x<j→PrP D1 (fun k=>((cstI cs k:Int):Rat)) T (fun l=>bs.getD l 0) m x s)∧(x=j→PrP D1 (fun k=>((cstI cs k:Int):Rat)) T (fun l=>bs.getD l 0) 0 x s)) xs')∧Below w.heap.size w wx)
   case first =>
    by_cases hjn:j<N0
    ·have hIdx:j<cs.length:=by omega
     obtain ⟨bc,oc,rfl,dc⟩:=ints_at (HC.out.below HB1.out) (k:=j) hIdx
     have hzj:=HCS.out _ (List.getElem_mem hIdx)
     have hfz:fits (cs[j]'hIdx):=fits_dl (Nat.le_trans hzj (by omega))
     have hcj:cstI cs j=cs[j]'hIdx:=by unfold cstI;rw [List.getD_eq_getElem?_getD,List.getElem?_eq_getElem (by omega)];rfl
     have hpr:PrP D1 (fun k=>((cstI cs k:Int):Rat)) T (fun l=>bs.getD l 0) 0 j (decI (cs[j]'hIdx)):=by rw [← hcj];exact prp_first HCS.out
     have HOF:=Lib.hid (fun w'=>rqof_any (cs[j]'hIdx) w' hfz)
     have HU:=Lib.hid (show TxL N (fun x s=>(x<j→PrP D1 (fun k=>((cstI cs k:Int):Rat)) T (fun l=>bs.getD l 0) m x s)∧(x=j→PrP D1 (fun k=>((cstI cs k:Int):Rat)) T (fun l=>bs.getD l 0) 0 x s)) (xs.set j (decI (cs[j]'hIdx))) from HTX.out.set ⟨fun h=>absurd h (Nat.lt_irrefl _),fun _=>hpr⟩ (fun x _ hne u h=>⟨h,fun e=>absurd e hne⟩))
     obtain ⟨g1,e,_,hgw2,hgc,hgf⟩:=HO1.out.at_ (by omega)
     obtain rfl:gx=g1:=by injection e with e;injection e with e _ _
     have d0:=hgc j hlj
     rw [strs_get _ _ (by rw [List.length_set,HTX.out.1];exact hlj)] at d0
     have d1:=hgf j
     clear hgc hgf hpr hcj hzj
     generalize (xs.set j [48]).getD j []=u1 at *
     generalize cs[j]'hIdx=z at *
     generalize decI z=y at *
     go_wp2_with fail
     refine (HOF.out _).mono ?_
     rintro e w2 ⟨rfl,hb2⟩
     have e0:=(hb2.cell (p:=⟨gx,j,none⟩) hgw2).trans d0
     have e1:=(hb2.frozen (p:=⟨gx,j,none⟩) hgw2).trans d1
     have hown2:=(HO1.out.below hb2).stored j (.string (B y))
     rw [strs_set,List.set_set] at hown2
     have hb3:=(HB1.out.trans (hb2.mono HB1.out.size)).setCell HGX.out (.string (B y)) (p:=⟨gx,j,none⟩)
     clear d0 d1 dc
     go_wp2_with fail
     go_meet
     exact ⟨⟨_,hown2,HU.out⟩,hb3⟩
    ·have hjx:¬ (j:Int)<(N0:Int):=by omega
     have hcj:cstI cs j=0:=by unfold cstI;rw [List.getD_eq_getElem?_getD,List.getElem?_eq_none (by omega)];rfl
     have HU:=Lib.hid (show TxL N (fun x s=>(x<j→PrP D1 (fun k=>((cstI cs k:Int):Rat)) T (fun l=>bs.getD l 0) m x s)∧(x=j→PrP D1 (fun k=>((cstI cs k:Int):Rat)) T (fun l=>bs.getD l 0) 0 x s)) (xs.set j [48]) from HTX.out.set ⟨fun h=>absurd h (Nat.lt_irrefl _),fun _=>by have:=prp_first (D1:=D1) (j:=j) (T:=T) (b:=fun l=>bs.getD l 0) HCS.out;rw [hcj,decI_z0] at this;exact this⟩ (fun x _ hne u h=>⟨h,fun e=>absurd e hne⟩))
     clear hjn hcj
     go_wp2_with fail
     go_meet
     exact ⟨⟨_,HO1.out,HU.out⟩,HB1.out⟩
   case rest =>
    obtain ⟨⟨xs1,hown1,htx1⟩,hb1⟩:=hcut
    have HTX1:=Lib.hid htx1
    have HOW1:=Lib.hid hown1
    have HBO1:=Lib.hid hb1
    clear htx1 hown1 hb1 HO1 HB1 hgw1
    go_wp2_with fail
    go_loopw [7] (fun i wr=>∃ (l:Nat) (xs:List Str),l≤m∧i=.int .i64 l∧OwnS wr w.heap.size 29 (some ⟨gx,0,none⟩) N N (strs xs)∧TxL N (fun x s=>(x<j→PrP D1 (fun k=>((cstI cs k:Int):Rat)) T (fun l=>bs.getD l 0) m x s)∧(x=j→PrP D1 (fun k=>((cstI cs k:Int):Rat)) T (fun l=>bs.getD l 0) l x s)) xs∧Below w.heap.size w wr) (fun i _=>m - (intOf i).toNat)
    case atStart=>exact ⟨0,xs1,Nat.zero_le _,rfl,HOW1.out,HTX1.out,HBO1.out⟩
    case round =>
     clear HTX1 HOW1 HBO1 HTX HOW HBO
     obtain ⟨l,xs2,hl,rfl,hown,htx,hb⟩:=hrel
     have HOW:=Lib.hid hown
     have HTX:=Lib.hid htx
     have HBO:=Lib.hid hb
     by_cases hlm:l<m
     ·have hlv:l<vs.length:=by omega
      have hlb:l<bs.length:=by rw [HBL.out];exact hlm
      obtain ⟨gA,hgA,_,hgA2,hsay⟩:=HS.out.say (by omega)
      have hxs:vs[l].xs=(rtx vs).getD l []:=(rtx_get hlv).symm
      have hxl:vs[l].xs.length=N:=by rw [hxs,HROW.out l hlm]
      have hjl:j<vs[l].xs.length:=by rw [hxl];exact hlj
      obtain ⟨bl,ol,hbl2,hbl3,hnum⟩:=HS.out.num (j:=0) hlv (by omega)
      have hcapL:=(HS.out.part.rows _ (List.getElem_mem hlv)).cap
      rw [hxl] at hcapL
      unfold maxLen at hcapL
      obtain ⟨gb,hgb,_,hgb2,hgb3,_⟩:=HS.out.part.bas.at_ (by omega)
      have hbl0:bs.getD l 0<N0:=HBX.out _ (by rw [List.getD_eq_getElem?_getD,List.getElem?_eq_getElem hlb];exact List.getElem_mem hlb)
      have hIdx:bs.getD l 0<cs.length:=by omega
      obtain ⟨bc,oc,rfl,dc⟩:=ints_at HC.out (k:=bs.getD l 0) hIdx
      have hbc:bc<w.heap.size:=by
       obtain ⟨b',o',e',h1,_⟩:=HC.out (by rw [ints_length];omega)
       injection e' with e';injection e' with e' _ _;rw [e'];exact h1
      have hzc:cstI cs (bs.getD l 0)=cs[bs.getD l 0]'hIdx:=by unfold cstI;rw [List.getD_eq_getElem?_getD,List.getElem?_eq_getElem (by omega)];rfl
      have hz5:=HCS.out _ (List.getElem_mem hIdx)
      have hfz:fits (cs[bs.getD l 0]'hIdx):=fits_dl (Nat.le_trans hz5 (by omega))
      obtain ⟨g1,e,_,hgw,hgc,hgf⟩:=hown.at_ (by omega)
      obtain rfl:gx=g1:=by injection e with e;injection e with e _ _
      have d0:=hgc j hlj
      rw [strs_get _ _ (by rw [htx.1];exact hlj)] at d0
      have d1:=hgf j
      have hpj:=(htx.2 j hlj).2 rfl
      have hst:=hpj.step (c:=decI (cs[bs.getD l 0]'hIdx)) (v:=cellM (rtx vs) l j) (int_fr hz5) (by rw [rq_int,← hzc]) (HFR.out l hlm j (by have:=HNE.out;omega)) (HT.out l hlm j (by have:=HNE.out;omega)).symm (by have:=HD.out;have:(D1+6)*(l+1)≤(D1+6)*m:=Nat.mul_le_mul_left _ (by omega);omega)
      have hvl1:=frx_len (HFR.out l hlm j (by have:=HNE.out;omega))
      have hD1:D1≤4096:=by have:=HD.out;have:(D1+6)*1≤(D1+6)*m:=Nat.mul_le_mul_left _ (by omega);omega
      have hpl1:(xs2.getD j []).length≤100000:=by
       have h1:=HD.out
       have h2:(D1+6)*l≤(D1+6)*m:=Nat.mul_le_mul_left _ (by omega)
       have h3:(D1+1)*l≤(D1+6)*l:=Nat.mul_le_mul_right _ (by omega)
       have:=frx_len (hpj.1.mono (n':=4096) (d':=4096) (by omega) (by omega))
       omega
      have HOF:=Lib.hid (fun w'=>rqof_any (cs[bs.getD l 0]'hIdx) w' hfz)
      have hdl1:=(frT_int hfz).len
      have HLS:=Lib.hid (fun (p:Value) (w':World)=>rxless_any p (xs2.getD j []) (decI (cs[bs.getD l 0]'hIdx)) (cellM (rtx vs) l j) w' hpl1 (by omega) (by omega) hst.1 hst.2.2.1)
      have HU:=Lib.hid (show TxL N (fun x s=>(x<j→PrP D1 (fun k=>((cstI cs k:Int):Rat)) T (fun l=>bs.getD l 0) m x s)∧(x=j→PrP D1 (fun k=>((cstI cs k:Int):Rat)) T (fun l=>bs.getD l 0) (l+1) x s)) (xs2.set j (subQS (xs2.getD j []) (mulQS (decI (cs[bs.getD l 0]'hIdx)) (cellM (rtx vs) l j)))) from htx.set ⟨fun h=>absurd h (Nat.lt_irrefl _),fun _=>hst.2.2.2⟩ (fun x _ hne u h=>⟨h.1,fun e=>absurd e hne⟩))
      have hbz:(0:Int)≤((bs.getD l 0:Nat):Int):=by omega
      have hbN:((bs.getD l 0:Nat):Int)<(N0:Int):=by omega
      have HSY:=Lib.hid (fun w' (hb:Below w.heap.size w w')=>(show w'.cell? ⟨H.kt,0,none⟩=some (.slice (some ⟨gA,0,none⟩) vs.length H.c)∧w'.cell? ⟨H.kt,3,none⟩=some (.slice (some ⟨gb,0,none⟩) m H.cb)∧w'.cell? ⟨gA,l,none⟩=some (.slice (some ⟨bl,ol,none⟩) N vs[l].c)∧w'.cell? ⟨bl,ol+j,none⟩=some (.string (B (cellM (rtx vs) l j)))∧w'.cell? ⟨gb,l,none⟩=some (.int .i64 (bs.getD l 0:Nat))∧w'.cell? ⟨bc,oc+bs.getD l 0,none⟩=some (.int .i64 (cs[bs.getD l 0]'hIdx)) from by
       obtain ⟨y0,y3,yA,_⟩:=hsay w' hb
       have yr:=yA l hlv
       rw [hbl2,hxl] at yr
       have yn:=hnum w' hb j hjl
       rw [hxs] at yn
       have yb:=(hb.cell (p:=⟨gb,l,none⟩) hgb2).trans (hgb3 l hlb)
       rw [nums_get _ _ hlb] at yb
       rw [hgb,HBL.out] at y3
       exact ⟨y0,y3,yr,yn,yb,(hb.cell (p:=⟨bc,oc+bs.getD l 0,none⟩) hbc).trans dc⟩))
      have HG:=Lib.hid (fun (w2:World) (h:Below wr.heap.size wr w2)=>show w2.cell? ⟨gx,j,none⟩=some (.string (B (xs2.getD j [])))∧w2.frozen? ⟨gx,j,none⟩=false from ⟨(h.cell (p:=⟨gx,j,none⟩) hgw).trans d0,(h.frozen (p:=⟨gx,j,none⟩) hgw).trans d1⟩)
      obtain ⟨y0,y3,yr,yn,yb,yc⟩:=HSY.out wr hb
      clear hgc hgf hown htx hb hpj hst hvl1 hpl1 hdl1 hsay hnum hzc hz5 hxs hgb3 hbl2 hxl hjl dc hgb hgA
      generalize vs[l].c=cl at *
      generalize subQS (xs2.getD j []) (mulQS (decI (cs[bs.getD l 0]'hIdx)) (cellM (rtx vs) l j))=y at *
      generalize xs2.getD j []=u1 at *
      generalize cellM (rtx vs) l j=v1 at *
      generalize cs[bs.getD l 0]'hIdx=z at *
      generalize bs.getD l 0=b1 at *
      have HOW2:=Lib.hid (fun w' (h:Below wr.heap.size wr w')=>(HOW.out.below h).stored j (.string (B y)))
      have HALL:=Lib.hid (fun w' (h:Below w.heap.size w w')=>(show Below w.heap.size w w'∧w'.cell? ⟨H.kt,0,none⟩=some (.slice (some ⟨gA,0,none⟩) vs.length H.c)∧w'.cell? ⟨H.kt,3,none⟩=some (.slice (some ⟨gb,0,none⟩) m H.cb)∧w'.cell? ⟨gA,l,none⟩=some (.slice (some ⟨bl,ol,none⟩) N cl)∧w'.cell? ⟨bl,ol+j,none⟩=some (.string (B v1))∧w'.cell? ⟨gb,l,none⟩=some (.int .i64 (b1:Nat))∧w'.cell? ⟨bc,oc+b1,none⟩=some (.int .i64 z) from ⟨h,HSY.out w' h⟩))
      have HKP:=Lib.hid (fun (wo wn:World) (h:Below w.heap.size w wo∧wo.cell? ⟨H.kt,0,none⟩=some (.slice (some ⟨gA,0,none⟩) vs.length H.c)∧wo.cell? ⟨H.kt,3,none⟩=some (.slice (some ⟨gb,0,none⟩) m H.cb)∧wo.cell? ⟨gA,l,none⟩=some (.slice (some ⟨bl,ol,none⟩) N cl)∧wo.cell? ⟨bl,ol+j,none⟩=some (.string (B v1))∧wo.cell? ⟨gb,l,none⟩=some (.int .i64 (b1:Nat))∧wo.cell? ⟨bc,oc+b1,none⟩=some (.int .i64 z)) (hbz:Below wo.heap.size wo wn)=>HALL.out wn (h.1.trans (hbz.mono h.1.size)))
      have HKS:=Lib.hid (fun (wo:World) (h:Below w.heap.size w wo∧wo.cell? ⟨H.kt,0,none⟩=some (.slice (some ⟨gA,0,none⟩) vs.length H.c)∧wo.cell? ⟨H.kt,3,none⟩=some (.slice (some ⟨gb,0,none⟩) m H.cb)∧wo.cell? ⟨gA,l,none⟩=some (.slice (some ⟨bl,ol,none⟩) N cl)∧wo.cell? ⟨bl,ol+j,none⟩=some (.string (B v1))∧wo.cell? ⟨gb,l,none⟩=some (.int .i64 (b1:Nat))∧wo.cell? ⟨bc,oc+b1,none⟩=some (.int .i64 z))=>HALL.out (wo.setCell ⟨gx,j,none⟩ (.string (B y))) (h.1.setCell HGX.out (.string (B y)) (p:=⟨gx,j,none⟩)))
      go_wp2_with fail
      have hS0:=HALL.out wr.drew (below_drew HBO.out)
      obtain ⟨d0',d1'⟩:=HG.out wr.drew (below_drew (Below.refl _ _))
      clear y0 y3 yr yn yb yc d0 d1
      refine wp_region_held_drew (S:=(fun w'=>Below w.heap.size w w'∧w'.cell? ⟨H.kt,0,none⟩=some (.slice (some ⟨gA,0,none⟩) vs.length H.c)∧w'.cell? ⟨H.kt,3,none⟩=some (.slice (some ⟨gb,0,none⟩) m H.cb)∧w'.cell? ⟨gA,l,none⟩=some (.slice (some ⟨bl,ol,none⟩) N cl)∧w'.cell? ⟨bl,ol+j,none⟩=some (.string (B v1))∧w'.cell? ⟨gb,l,none⟩=some (.int .i64 (b1:Nat))∧w'.cell? ⟨bc,oc+b1,none⟩=some (.int .i64 z))) (by kernel_rfl) hS0 (fun hHeld=>?_)
      refine wpAnyH_take (i:=0) (v:=?_) (by simp only [List.getElem?_toArray,List.getElem?_cons_zero];rfl) (by kernel_rfl) (by kernel_rfl) (by kernel_rfl) (by exact fun _ _ _ h=>h) (Or.inl ⟨by rfl,?_⟩) (by assumption) ?_
      rotate_left
      ·(intro w hSw;(try dsimp only at hSw);go_simp;(try with_reducible rfl))
      (try simp only [Act.put,List.setIfInBounds_toArray,List.set_cons_zero,List.set_cons_succ])
      refine wpAnyH_take (i:=1) (v:=?_) (by simp only [List.getElem?_toArray,List.getElem?_cons_succ,List.getElem?_cons_zero];rfl) (by kernel_rfl) (by kernel_rfl) (by kernel_rfl) (by exact fun _ _ _ h=>h) (Or.inl ⟨by rfl,?_⟩) (by assumption) ?_
      rotate_left
      ·(intro w hSw;(try dsimp only at hSw);go_simp;(try with_reducible rfl))
      (try simp only [Act.put,List.setIfInBounds_toArray,List.set_cons_zero,List.set_cons_succ])
      refine wpAnyH_take (i:=2) (v:=?_) (by simp only [List.getElem?_toArray,List.getElem?_cons_succ,List.getElem?_cons_zero];rfl) (by kernel_rfl) (by kernel_rfl) (by kernel_rfl) (by exact fun _ _ _ h=>h) (Or.inl ⟨by rfl,?_⟩) (by assumption) ?_
      rotate_left
      ·(intro w hSw;(try dsimp only at hSw);go_simp;(try with_reducible rfl))
      (try simp only [Act.put,List.setIfInBounds_toArray,List.set_cons_zero,List.set_cons_succ])
      refine wpAnyH_take (i:=3) (v:=?_) (by simp only [List.getElem?_toArray,List.getElem?_cons_succ,List.getElem?_cons_zero];rfl) (by kernel_rfl) (by kernel_rfl) (by kernel_rfl) (by exact fun _ _ _ h=>h) (Or.inl ⟨by rfl,?_⟩) (by assumption) ?_
      rotate_left
      ·(intro w hSw;(try dsimp only at hSw);go_simp;(try with_reducible rfl))
      (try simp only [Act.put,List.setIfInBounds_toArray,List.set_cons_zero,List.set_cons_succ])
      refine wpAnyH_take (i:=4) (v:=?_) (by simp only [List.getElem?_toArray,List.getElem?_cons_succ,List.getElem?_cons_zero];rfl) (by kernel_rfl) (by kernel_rfl) (by kernel_rfl) (by exact fun _ _ _ h=>h) (Or.inl ⟨by rfl,?_⟩) (by assumption) ?_
      rotate_left
      ·(intro w hSw;(try dsimp only at hSw);go_simp;(try with_reducible rfl))
      (try simp only [Act.put,List.setIfInBounds_toArray,List.set_cons_zero,List.set_cons_succ])
      refine wpAnyH_take (i:=5) (v:=?_) (by simp only [List.getElem?_toArray,List.getElem?_cons_succ,List.getElem?_cons_zero];rfl) (by kernel_rfl) (by kernel_rfl) (by kernel_rfl) (by exact fun _ _ _ h=>h) (Or.inl ⟨by rfl,?_⟩) (by assumption) ?_
      rotate_left
      ·(intro w hSw;(try dsimp only at hSw);go_simp;(try with_reducible rfl))
      (try simp only [Act.put,List.setIfInBounds_toArray,List.set_cons_zero,List.set_cons_succ])
      refine wpAnyH_take (i:=7) (v:=?_) (by simp only [List.getElem?_toArray,List.getElem?_cons_succ,List.getElem?_cons_zero];rfl) (by kernel_rfl) (by kernel_rfl) (by kernel_rfl) (by exact fun _ _ _ h=>h) (Or.inl ⟨by rfl,?_⟩) (by assumption) ?_
      rotate_left
      ·(intro w hSw;(try dsimp only at hSw);go_simp;(try with_reducible rfl))
      (try simp only [Act.put,List.setIfInBounds_toArray,List.set_cons_zero,List.set_cons_succ])
      refine wpAnyH_take (i:=8) (v:=?_) (by simp only [List.getElem?_toArray,List.getElem?_cons_succ,List.getElem?_cons_zero];rfl) (by kernel_rfl) (by kernel_rfl) (by kernel_rfl) (by exact fun _ _ _ h=>h) (Or.inl ⟨by rfl,?_⟩) (by assumption) ?_
      rotate_left
      ·(intro w hSw;(try dsimp only at hSw);go_simp;(try with_reducible rfl))
      (try simp only [Act.put,List.setIfInBounds_toArray,List.set_cons_zero,List.set_cons_succ])
      refine wpAnyH_take (i:=9) (v:=?_) (by simp only [List.getElem?_toArray,List.getElem?_cons_succ,List.getElem?_cons_zero];rfl) (by kernel_rfl) (by kernel_rfl) (by kernel_rfl) (by exact fun _ _ _ h=>h) (Or.inl ⟨by rfl,?_⟩) (by assumption) ?_
      rotate_left
      ·(intro w hSw;(try dsimp only at hSw);go_simp;(try with_reducible rfl))
      (try simp only [Act.put,List.setIfInBounds_toArray,List.set_cons_zero,List.set_cons_succ])
      refine wpAnyH_take (i:=10) (v:=?_) (by simp only [List.getElem?_toArray,List.getElem?_cons_succ,List.getElem?_cons_zero];rfl) (by kernel_rfl) (by kernel_rfl) (by kernel_rfl) (by exact fun _ _ _ h=>h) (Or.inl ⟨by rfl,?_⟩) (by assumption) ?_
      rotate_left
      ·(intro w hSw;(try dsimp only at hSw);go_simp;(try with_reducible rfl))
      (try simp only [Act.put,List.setIfInBounds_toArray,List.set_cons_zero,List.set_cons_succ])
      refine wpAnyH_take (i:=11) (v:=?_) (by simp only [List.getElem?_toArray,List.getElem?_cons_succ,List.getElem?_cons_zero];rfl) (by kernel_rfl) (by kernel_rfl) (by kernel_rfl) (by exact fun _ _ _ h=>h) (Or.inl ⟨by rfl,?_⟩) (by assumption) ?_
      rotate_left
      ·(intro w hSw;(try dsimp only at hSw);go_simp;(try with_reducible rfl))
      (try simp only [Act.put,List.setIfInBounds_toArray,List.set_cons_zero,List.set_cons_succ])
      refine wpAnyH_take (i:=12) (v:=?_) (by simp only [List.getElem?_toArray,List.getElem?_cons_succ,List.getElem?_cons_zero];rfl) (by kernel_rfl) (by kernel_rfl) (by kernel_rfl) (by exact fun _ _ _ h=>h) (Or.inl ⟨by rfl,?_⟩) (by assumption) ?_
      rotate_left
      ·(intro w hSw;(try dsimp only at hSw);go_simp;(try with_reducible rfl))
      (try simp only [Act.put,List.setIfInBounds_toArray,List.set_cons_zero,List.set_cons_succ])
      refine wpAnyH_take (i:=13) (v:=?_) (by simp only [List.getElem?_toArray,List.getElem?_cons_succ,List.getElem?_cons_zero];rfl) (by kernel_rfl) (by kernel_rfl) (by kernel_rfl) (by exact fun _ _ _ h=>h) (Or.inl ⟨by rfl,?_⟩) (by assumption) ?_
      rotate_left
      ·(intro w hSw;(try dsimp only at hSw);go_simp;(try with_reducible rfl))
      (try simp only [Act.put,List.setIfInBounds_toArray,List.set_cons_zero,List.set_cons_succ])
      refine wpAnyH_take (i:=14) (v:=?_) (by simp only [List.getElem?_toArray,List.getElem?_cons_succ,List.getElem?_cons_zero];rfl) (by kernel_rfl) (by kernel_rfl) (by kernel_rfl) (by exact fun _ _ _ h=>h) (Or.inl ⟨by rfl,?_⟩) (by assumption) ?_
      rotate_left
      ·(intro w hSw;(try dsimp only at hSw);go_simp;(try with_reducible rfl))
      (try simp only [Act.put,List.setIfInBounds_toArray,List.set_cons_zero,List.set_cons_succ])
      refine wpAnyH_take (i:=15) (v:=?_) (by simp only [List.getElem?_toArray,List.getElem?_cons_succ,List.getElem?_cons_zero];rfl) (by kernel_rfl) (by kernel_rfl) (by kernel_rfl) (by exact fun _ _ _ h=>h) (Or.inl ⟨by rfl,?_⟩) (by assumption) ?_
      rotate_left
      ·(intro w hSw;(try dsimp only at hSw);go_simp;(try with_reducible rfl))
      (try simp only [Act.put,List.setIfInBounds_toArray,List.set_cons_zero,List.set_cons_succ])
      refine wpAnyH_take (i:=16) (v:=?_) (by simp only [List.getElem?_toArray,List.getElem?_cons_succ,List.getElem?_cons_zero];rfl) (by kernel_rfl) (by kernel_rfl) (by kernel_rfl) (by exact fun _ _ _ h=>h) (Or.inl ⟨by rfl,?_⟩) (by assumption) ?_
      rotate_left
      ·(intro w hSw;(try dsimp only at hSw);go_simp;(try with_reducible rfl))
      (try simp only [Act.put,List.setIfInBounds_toArray,List.set_cons_zero,List.set_cons_succ])
      refine wpAnyH_take (i:=18) (v:=?_) (by simp only [List.getElem?_toArray,List.getElem?_cons_succ,List.getElem?_cons_zero];rfl) (by kernel_rfl) (by kernel_rfl) (by kernel_rfl) (by exact fun _ _ _ h=>h) (Or.inl ⟨by rfl,?_⟩) (by assumption) ?_
      rotate_left
      ·(intro w hSw;(try dsimp only at hSw);go_simp;(try with_reducible rfl))
      (try simp only [Act.put,List.setIfInBounds_toArray,List.set_cons_zero,List.set_cons_succ])
      refine wpAnyH_take (i:=19) (v:=?_) (by simp only [List.getElem?_toArray,List.getElem?_cons_succ,List.getElem?_cons_zero];rfl) (by kernel_rfl) (by kernel_rfl) (by kernel_rfl) (by exact fun _ _ _ h=>h) (Or.inl ⟨by rfl,?_⟩) (by assumption) ?_
      rotate_left
      ·(intro w hSw;(try dsimp only at hSw);go_simp;(try with_reducible rfl))
      (try simp only [Act.put,List.setIfInBounds_toArray,List.set_cons_zero,List.set_cons_succ])
      refine wpAnyH_take (i:=20) (v:=?_) (by simp only [List.getElem?_toArray,List.getElem?_cons_succ,List.getElem?_cons_zero];rfl) (by kernel_rfl) (by kernel_rfl) (by kernel_rfl) (by exact fun _ _ _ h=>h) (Or.inl ⟨by rfl,?_⟩) (by assumption) ?_
      rotate_left
      ·(intro w hSw;(try dsimp only at hSw);go_simp;(try with_reducible rfl))
      (try simp only [Act.put,List.setIfInBounds_toArray,List.set_cons_zero,List.set_cons_succ])
      refine wpAnyH_take (i:=21) (v:=?_) (by simp only [List.getElem?_toArray,List.getElem?_cons_succ,List.getElem?_cons_zero];rfl) (by kernel_rfl) (by kernel_rfl) (by kernel_rfl) (by exact fun _ _ _ h=>h) (Or.inl ⟨by rfl,?_⟩) (by assumption) ?_
      rotate_left
      ·(intro w hSw;(try dsimp only at hSw);go_simp;(try with_reducible rfl))
      (try simp only [Act.put,List.setIfInBounds_toArray,List.set_cons_zero,List.set_cons_succ])
      refine wpAnyH_take (i:=22) (v:=?_) (by simp only [List.getElem?_toArray,List.getElem?_cons_succ,List.getElem?_cons_zero];rfl) (by kernel_rfl) (by kernel_rfl) (by kernel_rfl) (by exact fun _ _ _ h=>h) (Or.inl ⟨by rfl,?_⟩) (by assumption) ?_
      rotate_left
      ·(intro w hSw;(try dsimp only at hSw);go_simp;(try with_reducible rfl))
      (try simp only [Act.put,List.setIfInBounds_toArray,List.set_cons_zero,List.set_cons_succ])
      refine wpAnyH_take (i:=23) (v:=?_) (by simp only [List.getElem?_toArray,List.getElem?_cons_succ,List.getElem?_cons_zero];rfl) (by kernel_rfl) (by kernel_rfl) (by kernel_rfl) (by exact fun _ _ _ h=>h) (Or.inl ⟨by rfl,?_⟩) (by assumption) ?_
      rotate_left
      ·(intro w hSw;(try dsimp only at hSw);go_simp;(try with_reducible rfl))
      (try simp only [Act.put,List.setIfInBounds_toArray,List.set_cons_zero,List.set_cons_succ])
      refine wpAnyH_take (i:=24) (v:=?_) (by simp only [List.getElem?_toArray,List.getElem?_cons_succ,List.getElem?_cons_zero];rfl) (by kernel_rfl) (by kernel_rfl) (by kernel_rfl) (by exact fun _ _ _ h=>h) (Or.inl ⟨by rfl,?_⟩) (by assumption) ?_
      rotate_left
      ·(intro w hSw;(try dsimp only at hSw);go_simp;(try with_reducible rfl))
      (try simp only [Act.put,List.setIfInBounds_toArray,List.set_cons_zero,List.set_cons_succ])
      refine wpAnyH_take (i:=25) (v:=?_) (by simp only [List.getElem?_toArray,List.getElem?_cons_succ,List.getElem?_cons_zero];rfl) (by kernel_rfl) (by kernel_rfl) (by kernel_rfl) (by exact fun _ _ _ h=>h) (Or.inl ⟨by rfl,?_⟩) (by assumption) ?_
      rotate_left
      ·(intro w hSw;(try dsimp only at hSw);go_simp;(try with_reducible rfl))
      (try simp only [Act.put,List.setIfInBounds_toArray,List.set_cons_zero,List.set_cons_succ])
      refine wpAnyH_take (i:=26) (v:=?_) (by simp only [List.getElem?_toArray,List.getElem?_cons_succ,List.getElem?_cons_zero];rfl) (by kernel_rfl) (by kernel_rfl) (by kernel_rfl) (by exact fun _ _ _ h=>h) (Or.inl ⟨by rfl,?_⟩) (by assumption) ?_
      rotate_left
      ·(intro w hSw;(try dsimp only at hSw);go_simp;(try with_reducible rfl))
      (try simp only [Act.put,List.setIfInBounds_toArray,List.set_cons_zero,List.set_cons_succ])
      refine wpAnyH_take (i:=27) (v:=?_) (by simp only [List.getElem?_toArray,List.getElem?_cons_succ,List.getElem?_cons_zero];rfl) (by kernel_rfl) (by kernel_rfl) (by kernel_rfl) (by exact fun _ _ _ h=>h) (Or.inl ⟨by rfl,?_⟩) (by assumption) ?_
      rotate_left
      ·(intro w hSw;(try dsimp only at hSw);go_simp;(try with_reducible rfl))
      (try simp only [Act.put,List.setIfInBounds_toArray,List.set_cons_zero,List.set_cons_succ])
      refine wpAnyH_ready (rs:=[6,17]) (by kernel_rfl) (by simp) (AllReadyH.cons (by simp only [List.getElem?_toArray,List.getElem?_cons_succ,List.getElem?_cons_zero];rfl) (fun K hK=>?_) (AllReadyH.cons (by simp only [List.getElem?_toArray,List.getElem?_cons_succ,List.getElem?_cons_zero];rfl) (fun K hK=>?_) AllReadyH.nil))
      ·skip
       go_simp
       refine hK.out _ _ ?_ (fun hHeld=>?_)
       ·exact by assumption
       clear hK K
       (try simp only [Act.put,List.setIfInBounds_toArray,List.set_cons_zero,List.set_cons_succ])
       refine wpAnyH_ready (rs:=[17]) (by kernel_rfl) (by simp) (AllReadyH.cons (by simp only [List.getElem?_toArray,List.getElem?_cons_succ,List.getElem?_cons_zero];rfl) (fun K hK=>?_) AllReadyH.nil)
       go_simp
       refine (HOF.out _).mono ?_
       rintro e wy ⟨rfl,hby⟩
       have hbO:=(below_drew (Below.refl wr.heap.size wr)).trans hby
       obtain ⟨m0,m1⟩:=HG.out wy hbO
       have hHy:=HKP.out _ _ hHeld hby
       refine hK.out _ _ hHy (fun hHeld2=>?_)
       clear hK K
       (try simp only [Act.put,List.setIfInBounds_toArray,List.set_cons_zero,List.set_cons_succ])
       refine wpAnyH_ready (rs:=[28]) (by kernel_rfl) (by simp) (AllReadyH.cons (by simp only [List.getElem?_toArray,List.getElem?_cons_succ,List.getElem?_cons_zero];rfl) (fun K hK=>?_) AllReadyH.nil)
       go_simp
       refine (HLS.out _ _).mono ?_
       rintro e wz ⟨rfl,hbz⟩
       have hbL:=hbO.trans (hbz.mono hbO.size)
       obtain ⟨n0,n1⟩:=HG.out wz hbL
       have hHz:=HKP.out _ _ hHy hbz
       refine hK.out _ _ hHz (fun hHeld3=>?_)
       clear hK K
       (try simp only [Act.put,List.setIfInBounds_toArray,List.set_cons_zero,List.set_cons_succ])
       refine wpAnyH_take (i:=29) (v:=?_) (by simp only [List.getElem?_toArray,List.getElem?_cons_succ,List.getElem?_cons_zero];rfl) (by kernel_rfl) (by kernel_rfl) (by kernel_rfl) (by exact fun _ _ _ h=>h) (Or.inl ⟨by rfl,?_⟩) (by assumption) ?_
       rotate_left
       ·(intro w hSw;(try dsimp only at hSw);go_simp;(try with_reducible rfl))
       (try simp only [Act.put,List.setIfInBounds_toArray,List.set_cons_zero,List.set_cons_succ])
       refine wpAnyH_ready (rs:=[30]) (by kernel_rfl) (by simp) (AllReadyH.cons (by simp only [List.getElem?_toArray,List.getElem?_cons_succ,List.getElem?_cons_zero];rfl) (fun K hK=>?_) AllReadyH.nil)
       go_simp
       refine hK.out _ _ (HKS.out _ hHz) (fun hHeld4=>?_)
       clear hK K
       (try simp only [Act.put,List.setIfInBounds_toArray,List.set_cons_zero,List.set_cons_succ])
       refine wpAnyH_done (by kernel_rfl) ?_ _
       have hown2:=HOW2.out wz hbL
       have hb3:=(HBO.out.trans (hbL.mono HBO.out.size)).setCell HGX.out (.string (B y)) (p:=⟨gx,j,none⟩)
       go_wp2_with fail
       go_roundw
       case rel=>exact ⟨l+1,_,by omega,by go_num,by rw [← strs_set];exact hown2,HU.out,hb3⟩
       case measure=>simp [intOf];omega
      ·skip
       go_simp
       refine (HOF.out _).mono ?_
       rintro e wy ⟨rfl,hby⟩
       have hbO:=(below_drew (Below.refl wr.heap.size wr)).trans hby
       obtain ⟨m0,m1⟩:=HG.out wy hbO
       have hHy:=HKP.out _ _ hHeld hby
       refine hK.out _ _ hHy (fun hHeld2=>?_)
       clear hK K
       (try simp only [Act.put,List.setIfInBounds_toArray,List.set_cons_zero,List.set_cons_succ])
       refine wpAnyH_ready (rs:=[6]) (by kernel_rfl) (by simp) (AllReadyH.cons (by simp only [List.getElem?_toArray,List.getElem?_cons_succ,List.getElem?_cons_zero];rfl) (fun K hK=>?_) AllReadyH.nil)
       go_simp
       refine hK.out _ _ hHy (fun hHeld5=>?_)
       clear hK K
       (try simp only [Act.put,List.setIfInBounds_toArray,List.set_cons_zero,List.set_cons_succ])
       refine wpAnyH_ready (rs:=[28]) (by kernel_rfl) (by simp) (AllReadyH.cons (by simp only [List.getElem?_toArray,List.getElem?_cons_succ,List.getElem?_cons_zero];rfl) (fun K hK=>?_) AllReadyH.nil)
       go_simp
       refine (HLS.out _ _).mono ?_
       rintro e wz ⟨rfl,hbz⟩
       have hbL:=hbO.trans (hbz.mono hbO.size)
       obtain ⟨n0,n1⟩:=HG.out wz hbL
       have hHz:=HKP.out _ _ hHy hbz
       refine hK.out _ _ hHz (fun hHeld3=>?_)
       clear hK K
       (try simp only [Act.put,List.setIfInBounds_toArray,List.set_cons_zero,List.set_cons_succ])
       refine wpAnyH_take (i:=29) (v:=?_) (by simp only [List.getElem?_toArray,List.getElem?_cons_succ,List.getElem?_cons_zero];rfl) (by kernel_rfl) (by kernel_rfl) (by kernel_rfl) (by exact fun _ _ _ h=>h) (Or.inl ⟨by rfl,?_⟩) (by assumption) ?_
       rotate_left
       ·(intro w hSw;(try dsimp only at hSw);go_simp;(try with_reducible rfl))
       (try simp only [Act.put,List.setIfInBounds_toArray,List.set_cons_zero,List.set_cons_succ])
       refine wpAnyH_ready (rs:=[30]) (by kernel_rfl) (by simp) (AllReadyH.cons (by simp only [List.getElem?_toArray,List.getElem?_cons_succ,List.getElem?_cons_zero];rfl) (fun K hK=>?_) AllReadyH.nil)
       go_simp
       refine hK.out _ _ (HKS.out _ hHz) (fun hHeld4=>?_)
       clear hK K
       (try simp only [Act.put,List.setIfInBounds_toArray,List.set_cons_zero,List.set_cons_succ])
       refine wpAnyH_done (by kernel_rfl) ?_ _
       have hown2:=HOW2.out wz hbL
       have hb3:=(HBO.out.trans (hbL.mono HBO.out.size)).setCell HGX.out (.string (B y)) (p:=⟨gx,j,none⟩)
       go_wp2_with fail
       go_roundw
       case rel=>exact ⟨l+1,_,by omega,by go_num,by rw [← strs_set];exact hown2,HU.out,hb3⟩
       case measure=>simp [intOf];omega
     ·have hlm':l=m:=by omega
      have HX:=Lib.hid (show TxL N (fun x s=>x<j+1→PrP D1 (fun k=>((cstI cs k:Int):Rat)) T (fun l=>bs.getD l 0) m x s) xs2 from htx.imp fun x _ s h hx=>by
       rcases Nat.lt_or_ge x j with h1 | h1
       ·exact h.1 h1
       ·have:=h.2 (by omega);rwa [hlm'] at this)
      have hlmx:¬ (l:Int)<(m:Int):=by omega
      clear hlm hlm' htx hown hb HTX
      go_wp2_with fail
      go_roundw
      case rel=>exact ⟨j+1,xs2,by omega,by go_num,HOW.out,HX.out,HBO.out⟩
      case measure=>simp [intOf];omega
  ·have hjN:j=N:=by omega
   have hjx:¬ (j:Int)<(N:Int):=by omega
   have HX:=Lib.hid (show TxL N (PrP D1 (fun k=>((cstI cs k:Int):Rat)) T (fun l=>bs.getD l 0) m) xs from htx.imp fun x hx s h=>h (by omega))
   have hS1:=HS.out.below hb
   have HR:=Lib.hid (rowK_own hown htx.1)
   have hpre:OwnS wr Bs 28 H.A m H.c ((vs.map hdrK).take m):=by
    rcases OwnS.pre hS1.part.outer hvl with h1 | h1
    ·exact h1
    ·have h2:=hS1.part.outer
     have h3:m=0:=by omega
     have h4:vs=[]:=List.eq_nil_of_length_eq_zero h1
     rw [h3]
     rw [h4] at h2 ⊢
     exact h2
   have hBw:Bs≤wr.heap.size:=Nat.le_trans HSZ.out hb.size
   have HBW:=Lib.hid (show BlN Bs w wr from .of hb HSZ.out)
   have HTY:=Lib.hid (fun w4 (hk:KeptA H.A wr w4)=>(hk.2 H.kt hS1.lt (hS1.part.outer.not hS1.obj (by decide))).trans hS1.obj)
   have f0:=hS1.cell 0
   have z0:=hS1.free 0
   have HS1:=Lib.hid hS1
   have HPR:=Lib.hid hpre
   have HXL:=Lib.hid htx.1
   have HKA:=Lib.hid (fun (A':Option Addr) (c':Nat) (w4:World) (h1:OwnS w4 Bs 28 A' (m+1) c' ((vs.map hdrK).take m ++ [.slice (some ⟨gx,0,none⟩) N N])) (hk:KeptA H.A wr w4)=>(show SxK (w4.setCell ⟨H.kt,0,none⟩ (.slice A' (m+1) c')) Bs { H with A:=A',c:=c' } vars aux (vs.take m ++ [⟨some ⟨gx,0,none⟩,N,xs⟩]) bs tv from by
    refine HS1.out.app (k:=m) hvl HR.out (A':=A') (c':=c') ?_ hk
    rw [List.map_take];show OwnS _ _ _ _ _ _ (_ ++ [.slice (some ⟨gx,0,none⟩) xs.length N]);rw [HXL.out];exact h1))
   have HCA:=Lib.hid (fun w4 (hk:KeptA H.A wr w4)=>HS1.out.cellA HS1.out.part.outer (by decide) hk 0)
   have hvN:(m:Int)≤(vs.length:Int):=by omega
   have hvC:(m:Int)≤(H.c:Int):=by omega
   have hm0:(0:Int)≤(m:Int):=by omega
   clear hjN hown htx hb hS1 hpre HTX
   go_wp2_with (at_builtin;refine wp_app1f el_mrow rfl _ _ rfl Bs _ _ _ _ _ (.slice (some ⟨gx,0,none⟩) N N) rfl HPR.out rfl rfl (by unfold maxLen;omega) (by omega) hBw ?_;intro A4 c4 w4 hown4 hb4 hk4 hf4;have hS4:=HKA.out A4 c4 w4 hown4 hk4;obtain ⟨g0,y0⟩:=HCA.out w4 hk4;have HB4:=Lib.hid ((HBW.out.app HPR.out (by decide) hk4 hb4).set (i:=0) (v:=.slice A4 (m+1) c4) hktB (HTY.out w4 hk4) (by decide));have HS4:=Lib.hid hS4;clear hS4 hown4 hb4)
   first | go_end0 | refine bodyPost_ret (results_none rfl _ _ _) rfl ?_
   have hrt:rtx (vs.take m ++ [⟨some ⟨gx,0,none⟩,N,xs⟩])=(rtx vs).take m ++ [xs]:=by unfold rtx;rw [List.map_append,List.map_take];rfl
   first | exact ⟨rfl,⟨_,_,_,rfl,HS4.out,hrt,HX.out⟩,HB4.out⟩ | exact ⟨rfl,⟨{ H with A:=A4,c:=c4 },rfl,_,HS4.out,xs,hrt,HX.out⟩,HB4.out⟩ | exact ⟨rfl,⟨{ H with A:=A4,c:=c4 },rfl,_,HS4.out,xs,hrt,by simpa using HX.out⟩,HB4.out⟩
end Go.Proofs.YtmppmdmekomjbaaGreatDoor
namespace Go.Proofs.YtmppmdmekomjbaaGreatDoor
open Go.RowKit Num
set_option linter.unusedVariables false
attribute [local go_sem] B_size B_get B_toList B_mk B_extract B_append
def ClnQ (m ci:Nat) (T:Mx) (bs:List Nat) (i j:Nat):Prop:=(ClnP m ci T (bOf bs m (ci+m+1)) (i+1)∧bs.getD i 0<ci)∨(ClnP m ci T (bOf bs m (ci+m+1)) i∧ci≤bs.getD i 0∧∀ l,l<j→T i l=0)
theorem ClnQ.out {m ci i j:Nat} {T:Mx} {bs:List Nat} (h:ClnQ m ci T bs i j) (hj:ci≤j∨bs.getD i 0<ci):ClnP m ci T (bOf bs m (ci+m+1)) (i+1):=by
 rcases h with h | ⟨h1,h2,h3⟩
 ·exact h.1
 ·exact h1.skip fun _ l hl=>h3 l (by omega)
theorem ClnQ.next {m ci i j:Nat} {T:Mx} {bs:List Nat} (h:ClnQ m ci T bs i j) (hz:T i j=0):ClnQ m ci T bs i (j+1):=by
 rcases h with h | ⟨h1,h2,h3⟩
 ·exact .inl h
 ·refine .inr ⟨h1,h2,fun l hl=>?_⟩
  by_cases e:l=j
  ·rw [e];exact hz
  ·exact h3 l (by omega)
set_option maxHeartbeats 4000000 in
set_option maxRecDepth 100000 in
theorem rxclear_any {D d m vars ci:Nat} {R:Nat→Nat→Int} {bs:List Nat} {tv:List Bool} {vs:List VecV} {T:Mx} {H:KH} (hd1:1≤d) (hd:∀ s,s<m+1→∀ c,c<ci+m+2→dl (R s c)≤d) (hg:gr m d≤D) (hD:3*D+1≤4096)
  (hE:SxE D m ci R (rtx vs) bs T) (hC:ClnP m ci T (bOf bs m (ci+m+1)) 0) (Bs:Nat) (w:World)
  (hS:SxK w Bs H vars ci vs bs tv) (hk:ci+m+1≤1000) (hm:m≤400) (hsz:Bs≤w.heap.size) :
  Calls Tryz.prog 38 #[.pointer (some ⟨H.kt,0,none⟩)] w fun e w'=>e=.returned (.tuple #[])∧(∃ (vs':List VecV) (bs':List Nat) (T':Mx),SxK w' Bs H vars ci vs' bs' tv∧SxE D m ci R (rtx vs') bs' T'∧ClnP m ci T' (bOf bs' m (ci+m+1)) m)∧BlN Bs w w':=by
 have HPV:=Lib.hid (fun (E:List (List Str)) (bs:List Nat) (T:Mx) (hE:SxE D m ci R E bs T) (r c:Nat) (hr:r<m) (hc:c<ci) (hne:cellM E r c≠[48])=>hE.pivot hd1 hd hg hD hr hc hne)
 have HD:=Lib.hid hD
 have HS0:=Lib.hid hE
 have HC0:=Lib.hid hC
 have HM0:=Lib.hid hS
 have HSZ:=Lib.hid hsz
 clear hE hC hd hg hD hS hsz
 go_enter Tryz.func38,Tryz.ntmps38
 simp only [B_mk]
 go_wp2_with fail
 go_loopw [2,3] (fun i _ wr=>∃ (j:Nat) (vs':List VecV) (bs':List Nat) (T':Mx),j≤m∧i=.int .i64 j∧SxK wr Bs H vars ci vs' bs' tv∧SxE D m ci R (rtx vs') bs' T'∧ClnP m ci T' (bOf bs' m (ci+m+1)) j∧BlN Bs w wr) (fun i _ _=>m - (intOf i).toNat)
 case atStart=>exact ⟨0,vs,bs,T,Nat.zero_le _,rfl,HM0.out,HS0.out,HC0.out,BlN.refl _ _⟩
 case round =>
  clear HS0 HC0 HM0
  obtain ⟨i,vs',bs',T',hi,rfl,hM,hS,hC,hb0⟩:=hrel
  have HM:=Lib.hid hM
  have HS:=Lib.hid hS
  have HC:=Lib.hid hC
  have HB0:=Lib.hid hb0
  have hbl:=hS.blen
  have hcB:=hM.part.bas.cap
  rw [hbl] at hcB
  unfold maxLen at hcB
  have c3:=hM.cell 3
  rw [hbl] at c3
  have hkt:=hM.lt
  by_cases hlt:i<m
  ·clear hM hS hC hb0
   go_wp2_with fail
   clear c3
   go_loopw [3] (fun q wx=>∃ (j:Nat) (vs2:List VecV) (bs2:List Nat) (T2:Mx),j≤ci∧q=.int .i64 j∧SxK wx Bs H vars ci vs2 bs2 tv∧SxE D m ci R (rtx vs2) bs2 T2∧ClnQ m ci T2 bs2 i j∧BlN Bs w wx) (fun q _=>ci - (intOf q).toNat)
   case atStart =>
    refine ⟨0,vs',bs',T',Nat.zero_le _,rfl,HM.out,HS.out,?_,HB0.out⟩
    by_cases hbs:bs'.getD i 0<ci
    ·refine .inl ⟨HC.out.skip fun h=>?_,hbs⟩
     rw [bOf_lt hlt] at h
     omega
    ·exact .inr ⟨HC.out,by omega,fun l hl=>absurd hl (Nat.not_lt_zero _)⟩
   case round =>
    clear HM HS HC HB0 hkt hcB hbl
    obtain ⟨j,vs2,bs2,T2,hj,rfl,hM,hS,hC,hb0⟩:=hrel
    have hBw:Bs≤wr.heap.size:=by have h1:=hM.base;have h2:=hM.lt;omega
    have hbl:=hS.blen
    have hvl:vs2.length=m+1:=by rw [← rtx_length];exact hS.len
    have hrl:((rtx vs2).getD i []).length=ci+m+1:=(hS.mat.row (by rw [hS.len];omega)).1
    obtain ⟨gA,gb,br,ro,cl,hcl1,hcl2,hsay⟩:=hM.sayR (i:=i) (c:=min j (ci+m)) (by omega) (by omega) (by omega)
    unfold maxLen at hcl2
    rw [(rtx_get (rs:=vs2) (i:=i) (by omega)).symm,hrl] at hcl1
    rw [hrl,hbl,hvl] at hsay
    have hcA:=hM.part.outer.cap
    have hcB:=hM.part.bas.cap
    rw [hbl] at hcB
    rw [hvl] at hcA
    unfold maxLen at hcA hcB
    have HM:=Lib.hid hM
    have HS:=Lib.hid hS
    have HC:=Lib.hid hC
    have HB0:=Lib.hid hb0
    have HSY:=Lib.hid hsay
    obtain ⟨y0,_,y2,y3,yr,yn,yb⟩:=hsay wr (Below.refl _ _)
    clear hM hS hC hb0 hsay
    by_cases hlj:j<ci
    ·have hd':decide ((j:Int)<(ci:Int))=true:=by rw [decide_eq_true_eq];omega
     have hljI:(j:Int)<(ci:Int):=by omega
     by_cases hbs:bs2.getD i 0<ci
     ·have hd2:decide ((ci:Int)≤((bs2.getD i 0:Nat):Int))=false:=by rw [decide_eq_false_iff_not];omega
      have hbI:¬ (ci:Int)≤((bs2.getD i 0:Nat):Int):=by omega
      have HN:=Lib.hid (HC.out.out (.inr hbs))
      clear hbs
      generalize bs2.getD i 0=bi at *
      go_wp2_with fail
      go_quiet (fail)
      go_wp2_with fail
      go_roundw
      case rel=>exact ⟨i+1,vs2,bs2,T2,by omega,by go_num,HM.out.below (below_drewN (Below.refl _ _) _),HS.out,HN.out,HB0.out.snoc (below_drewN (Below.refl _ _) _) hBw⟩
      case measure=>simp [intOf];omega
     ·have hd2:decide ((ci:Int)≤((bs2.getD i 0:Nat):Int))=true:=by rw [decide_eq_true_eq];omega
      have hbI:(ci:Int)≤((bs2.getD i 0:Nat):Int):=by omega
      have HBS:=Lib.hid hbs
      clear hbs
      generalize hbe:bs2.getD i 0=bi at *
      have HBE:=Lib.hid hbe
      clear hbe
      have hmin:min j (ci+m)=j:=by omega
      rw [hmin] at yn
      have hz:=HS.out.zero (i:=i) (j:=j) (by have:=HD.out;omega) (by omega) (by omega)
      by_cases hc0:cellM (rtx vs2) i j=[48]
      ·have HN:=Lib.hid (HC.out.next (hz.2 hc0))
       rw [hc0] at yn
       clear hc0 hz hmin
       go_wp2_with fail
       go_quiet (fail)
       go_wp2_with fail
       go_roundw
       case rel=>exact ⟨j+1,vs2,bs2,T2,by omega,by go_num,HM.out.below (below_drewN (Below.refl _ _) _),HS.out,HN.out,HB0.out.snoc (below_drewN (Below.refl _ _) _) hBw⟩
       case measure=>simp [intOf];omega
      ·have hT0:T2 i j≠0:=fun e=>hc0 (hz.1 e)
       obtain ⟨hO,hE2⟩:=HPV.out _ bs2 T2 HS.out i j hlt hlj hc0
       have HN:=Lib.hid (show ClnQ m ci (pivM T2 i j) (bs2.set i j) i (j+1) by
        refine .inl ⟨?_,?_⟩
        ·rw [bOf_set HS.out.blen hlt]
         rcases HC.out with h | h
         ·have h1:=h.2;have h2:=HBS.out;have h3:=HBE.out;omega
         ·exact h.1.piv hlt (by rw [bOf_lt hlt];exact h.2.1) hlj hT0
        ·rw [List.getD_eq_getElem?_getD,List.getElem?_set_self (by omega)];exact hlj)
       have HE2:=Lib.hid hE2
       have HPC:=Lib.hid (fun n=>rxpivot_any (row:=i) (col:=j) hO HD.out Bs (wr.drewN n) (HM.out.below (below_drewN (Below.refl _ _) n)) rfl (by omega) (by omega) (by omega) (by omega))
       have hc0':(cellM (rtx vs2) i j == [48])=false:=by simpa using hc0
       clear hz hT0 hO hE2 hc0 hmin
       generalize hae:cellM (rtx vs2) i j=a at *
       clear hae
       go_wp2_with fail
       go_quiet (fail)
       go_wp2_with fail
       refine (HPC.out _).mono ?_
       rintro e w4 ⟨rfl,⟨vs4,hv4,hM4⟩,hb4⟩
       go_wp2_with fail
       go_roundw
       case rel=>exact ⟨j+1,vs4,_,_,by omega,by go_num,hM4,by rw [hv4];exact HE2.out,HN.out,(HB0.out.snoc (below_drewN (Below.refl _ _) _) hBw).trans hb4⟩
       case measure=>simp [intOf];omega
    ·have hd':decide ((j:Int)<(ci:Int))=false:=by rw [decide_eq_false_iff_not];omega
     have hljI:¬ (j:Int)<(ci:Int):=by omega
     have HN:=Lib.hid (HC.out.out (.inl (by omega)))
     go_wp2_with fail
     go_quiet (fail)
     go_wp2_with fail
     go_roundw
     case rel=>exact ⟨i+1,vs2,bs2,T2,by omega,by go_num,HM.out.below (below_drewN (Below.refl _ _) _),HS.out,HN.out,HB0.out.snoc (below_drewN (Below.refl _ _) _) hBw⟩
     case measure=>simp [intOf];omega
  ·have him:i=m:=by omega
   have hix:¬ (i:Int)<(m:Int):=by omega
   have HN:=Lib.hid (show ClnP m ci T' (bOf bs' m (ci+m+1)) m by rw [← him];rw [him] at hC ⊢;exact hC)
   clear him hC hM hS
   go_wp2_with fail
   go_end0
   first
    | exact ⟨rfl,⟨vs',bs',T',HM.out,HS.out,HN.out⟩,hb0⟩
    | exact ⟨rfl,⟨vs',bs',HM.out,T',HS.out,HN.out⟩,hb0⟩
    | exact ⟨rfl,⟨vs',bs',HM.out,⟨T',HS.out,HN.out⟩⟩,hb0⟩
end Go.Proofs.YtmppmdmekomjbaaGreatDoor
namespace Go.Proofs.YtmppmdmekomjbaaGreatDoor
open Num
set_option linter.unusedVariables false
structure RefP (D:Nat) (p:LinL):Prop where
 kd:∀ i,i<p.rows.length→(Num.rowAt p i).kind=1∨(Num.rowAt p i).kind=2∨(Num.rowAt p i).kind=3
 sm:SmallL 3 3 p
 n7:p.cost.length≤7
 m7:p.rows.length≤7
 g1:gr (p.rows.length - 1) 3≤255
 g:gr p.rows.length 3≤D
 d255:255≤D
 dD:3*D+16≤4096
def cs1 (p:LinL):List Int:=List.replicate (colR p) 0 ++ List.replicate p.rows.length 1
def cs2 (p:LinL):List Int:=p.cost ++ List.replicate (2*p.rows.length) 0
theorem getD_repK {α} (n:Nat) (a d:α) (k:Nat):(List.replicate n a).getD k d=if k<n then a else d:=by
 rw [List.getD_eq_getElem?_getD,List.getElem?_replicate]
 by_cases e:k<n
 ·rw [if_pos e,if_pos e];rfl
 ·rw [if_neg e,if_neg e];rfl
theorem getD_appK {α} (xs ys:List α) (d:α) (k:Nat):(xs ++ ys).getD k d=if k<xs.length then xs.getD k d else ys.getD (k - xs.length) d:=by
 rw [List.getD_eq_getElem?_getD]
 by_cases e:k<xs.length
 ·rw [if_pos e,List.getElem?_append_left e,← List.getD_eq_getElem?_getD]
 ·rw [if_neg e,List.getElem?_append_right (by omega),← List.getD_eq_getElem?_getD]
theorem cs1_len (p:LinL):(cs1 p).length=colR p+p.rows.length:=by unfold cs1;rw [List.length_append,List.length_replicate,List.length_replicate]
theorem cs2_len (p:LinL):(cs2 p).length=colR p+p.rows.length:=by unfold cs2 colR;rw [List.length_append,List.length_replicate];omega
theorem cs1_get (p:LinL) {k:Nat} (hk:k<colR p+p.rows.length+1):cstI (cs1 p) k=C1 p [] 1 k:=by
 have hc:p.cost.length≤colR p:=by unfold colR;omega
 unfold cstI cs1 C1
 rw [getD_appK,List.length_replicate,getD_repK,getD_repK]
 by_cases e1:k<p.cost.length
 ·rw [if_pos e1,if_pos (by omega),if_pos (by omega)];rfl
 ·rw [if_neg e1]
  by_cases e2:k<colR p
  ·rw [if_pos e2,if_pos e2,if_pos e2]
  ·rw [if_neg e2,if_neg e2]
   by_cases e3:k<colR p+p.rows.length
   ·rw [if_pos e3,if_pos (by omega)]
   ·rw [if_neg e3,if_neg (by omega),if_pos (by omega)]
theorem cs2_get (p:LinL) {k:Nat} (hk:k<colR p+p.rows.length+1):cstI (cs2 p) k=C1 p p.cost 0 k:=by
 have hc:colR p=p.cost.length+p.rows.length:=rfl
 unfold cstI cs2 C1
 rw [getD_appK,getD_repK]
 by_cases e1:k<p.cost.length
 ·rw [if_pos e1,if_pos e1]
 ·rw [if_neg e1,if_neg e1]
  have h0:(if k - p.cost.length<2*p.rows.length then (0:Int) else 0)=0:=by split <;> rfl
  rw [h0]
  by_cases e2:k<colR p
  ·rw [if_pos e2]
  ·rw [if_neg e2]
   by_cases e3:k<colR p+p.rows.length
   ·rw [if_pos e3]
   ·rw [if_neg e3,if_pos (by omega)]
theorem cs1_dl (p:LinL):∀ n ∈ cs1 p,dl n≤5:=fun n hn=>by
 unfold cs1 at hn
 rcases List.mem_append.1 hn with h | h
 ·rw [(List.mem_replicate.1 h).2];exact Nat.le_trans (dl_small (.inl rfl)) (by omega)
 ·rw [(List.mem_replicate.1 h).2];exact Nat.le_trans (dl_small (.inr (.inl rfl))) (by omega)
theorem cs2_dl {D:Nat} {p:LinL} (h:RefP D p):∀ n ∈ cs2 p,dl n≤5:=fun n hn=>by
 unfold cs2 at hn
 rcases List.mem_append.1 hn with h1 | h1
 ·exact Nat.le_trans (h.sm.cost n h1) (by omega)
 ·rw [(List.mem_replicate.1 h1).2];exact Nat.le_trans (dl_small (.inl rfl)) (by omega)
theorem prp_congr {D1 m N:Nat} {c1 c2:Nat→Rat} {T:Mx} {b:Nat→Nat} {pr:List Str} (h:TxL N (PrP D1 c1 T b m) pr) (h1:∀ j,j<N→c1 j=c2 j) (h2:∀ l,l<m→b l<N):TxL N (PrP D1 c2 T b m) pr :=
 h.imp fun j hj s hs=>⟨hs.1,by rw [hs.2,h1 j hj,sumR_congr m (fun l hl=>by rw [h1 _ (h2 l hl)])]⟩
section
variable {D:Nat} {p:LinL}
theorem RefP.sxr (h:RefP D p):SxR p.cost.length p.rows.length (colR p) (fun i=>sgI (Num.rowAt p i)) (fun i j=>(Num.rowAt p i).coef.getD j 0) (fun i=>(Num.rowAt p i).kind) (fun i=>(Num.rowAt p i).right) (fun i=>p.cost.length+i) (R1 p):=sxR1 p h.kd
theorem RefP.d3 (h:RefP D p):∀ i,i<p.rows.length→∀ j,dl (R1 p i j)≤3:=fun i hi j=>R1_small h.sm (by omega) hi
theorem RefP.e1 (h:RefP D p):∀ s,s<p.rows.length+1→∀ c,dl (extR p.rows.length (R1 p) (C1 p [] 1) s c)≤3:=fun s hs c=>ext1_small (p:=p) (cost:=[]) (κ:=1) h.sm (fun n h=>absurd h (by simp)) (.inr rfl) (by omega) (Nat.le_refl _) s c hs
theorem RefP.e2 (h:RefP D p):∀ s,s<p.rows.length+1→∀ c,dl (extR p.rows.length (R1 p) (C1 p p.cost 0) s c)≤3:=fun s hs c=>ext1_small (p:=p) (cost:=p.cost) (κ:=0) h.sm h.sm.cost (.inl rfl) (by omega) (Nat.le_refl _) s c hs
theorem RefP.mm (h:RefP D p):8+(255+6)*p.rows.length≤4096:=by
 have:=h.m7
 have hmm:(255+6)*p.rows.length≤(255+6)*7:=Nat.mul_le_mul_left _ this
 omega
theorem ku_rows {M:List (List Str)} {bs:List Nat} {tv:List Bool} (hP:RefP D p) (h:KuP p p.rows.length M bs tv) :
  Tb p.rows.length (colR p+p.rows.length+2) (R1 p) (ratM (R1 p)) (fun l=>bs.getD l 0)∧Mat 255 255 (colR p+p.rows.length+1) M∧(∀ i,i<p.rows.length→∀ j,j<colR p+p.rows.length+1→ratM (R1 p) i j=rq (cellM M i j))∧∀ x ∈ bs,x<colR p+p.rows.length:=by
 have htb:=tb_first (N:=colR p+p.rows.length+2) hP.sxr.unit (fun l hl=>by omega)
 refine ⟨⟨htb.ker,fun i l hi hl=>by rw [← htb.base i l hi hl,h.be l hl],fun l hl=>by rw [h.be l hl];exact htb.col l hl⟩,fun r hr=>?_,fun i hi j hj=>?_,fun x hx=>?_⟩
 ·obtain ⟨i,hi,rfl⟩:=List.getElem_of_mem hr
  rw [h.ml] at hi
  have hre:=h.re i hi
  have hg:M.getD i []=M[i]:=by rw [List.getD_eq_getElem?_getD,List.getElem?_eq_getElem];rfl
  rw [hg] at hre
  refine ⟨hre.1,fun a ha=>?_⟩
  obtain ⟨j,hj,e⟩:=mem_getD ha
  rw [hre.1] at hj
  rw [e,hre.2 j hj]
  exact (int_fr (hP.d3 i hi j)).mono (by omega) (by omega)
 ·unfold cellM
  rw [(h.re i hi).2 j hj,rq_int];rfl
 ·obtain ⟨i,hi,rfl⟩:=List.getElem_of_mem hx
  have h2:=h.be i (by rw [← h.bl];exact hi)
  rw [List.getD_eq_getElem?_getD,List.getElem?_eq_getElem hi] at h2
  have h2:bs[i]=colR p+i:=h2
  have:=h.bl
  omega
theorem bs_lt {bs:List Nat} {m N:Nat} (hl:bs.length=m) (h:∀ x ∈ bs,x<N):∀ l,l<m→bs.getD l 0<N:=fun l hlm=>by
 rw [List.getD_eq_getElem?_getD,List.getElem?_eq_getElem (by omega)];exact h _ (List.getElem_mem _)
theorem ref_first {M:List (List Str)} {bs:List Nat} {tv:List Bool} {pr:List Str} (hP:RefP D p) (h:KuP p p.rows.length M bs tv) (hpr:TxL (colR p+p.rows.length+1) (PrP 255 (fun k=>((cstI (cs1 p) k:Int):Rat)) (ratM (R1 p)) (fun l=>bs.getD l 0) p.rows.length) pr) :
  ∃ T1,SxE D p.rows.length (colR p) (extR p.rows.length (R1 p) (C1 p [] 1)) (M ++ [pr]) bs T1∧Feas p.rows.length (colR p+p.rows.length+2) (colR p) (colR p+p.rows.length) (colR p+p.rows.length+1) (extR p.rows.length (R1 p) (C1 p [] 1)) T1 (bOf bs p.rows.length (colR p+p.rows.length+1)):=by
 obtain ⟨k1,k2,k3,k4⟩:=ku_rows hP h
 have hmm:=hP.mm
 have hdD:=hP.dD
 have hb:=bs_lt h.bl k4
 obtain ⟨T1,hE1,hT1⟩:=charge_ent (D:=D) (D1:=255) (d:=3) (m:=p.rows.length) (ci:=colR p) (cst:=C1 p [] 1) k1 (fun i hi=>hP.sxr.top i hi) (sxC1 p [] 1).top h.ml k2 hP.d255 k3 h.bl k4 (prp_congr hpr (fun j hj=>by rw [cs1_get p hj]) (fun l hl=>by have:=hb l hl;omega)) hmm (by omega) hP.e1 hP.g (by omega)
 refine ⟨T1,hE1,hE1.tab,bOf_top _ _ _,fun i hi=>?_⟩
 rw [hT1 i hi]
 show 0≤((R1 p i (colR p+p.rows.length):Int):Rat)
 rw [hP.sxr.rhs i hi]
 exact Rat.intCast_nonneg.2 (hP.sxr.pos i hi)
theorem ref_mid {E:List (List Str)} {bs:List Nat} {T:Mx} {f:Int} (hP:RefP D p) (hE:PhEnd D p.rows.length (colR p) (extR p.rows.length (R1 p) (C1 p [] 1)) (fun _ _=>True) E bs T f) :
  (T p.rows.length (colR p+p.rows.length)=0→ClnP p.rows.length (colR p) T (bOf bs p.rows.length (colR p+p.rows.length+1)) 0)∧(∀ (tv:List Bool) (ys:List Str),(∀ i,i<p.rows.length→tv.getD i false=decide ((Num.rowAt p i).right<0))→DuL D p.rows.length (colR p) T (rq [49]) tv p.rows.length ys→T p.rows.length (colR p+p.rows.length)≠0→DualR (D+4) p [] ys∧0<rightR p ys):=by
 have hC1:=sxC1 p [] 1
 have hC1':SxC p.cost.length p.rows.length (colR p) 1 (fun _=>0) (C1 p [] 1):=⟨fun j hj=>by rw [hC1.var j hj];simp,hC1.slack,hC1.unit,hC1.rhs,hC1.top⟩
 have hb:=bs_lt hE.ent.blen hE.ent.blt
 have hbb:∀ l,l<p.rows.length→bOf bs p.rows.length (colR p+p.rows.length+1) l<colR p+p.rows.length:=fun l hl=>by rw [bOf_lt hl];exact hb l hl
 have hpr1:∀ j,j<colR p→0≤T p.rows.length j:=by
  rcases hE.fin with ⟨_,h⟩ | ⟨c,_,hc,hneg,hno⟩
  ·exact h
  ·have:=sx_bounded hP.sxr hC1' hE.ent.tab (bOf_top _ _ _) hbb hc hno
   grind
 have hsum:=sx_sum hP.sxr hC1' hE.ent.tab (bOf_top _ _ _) hbb hE.feas.pos
 refine ⟨fun hz=>⟨hE.feas.pos,hsum.2 hz,fun l hl=>absurd hl (Nat.not_lt_zero _)⟩,fun tv ys htv hy hnz=>?_⟩
 have hDA:=gans_dual (p:=p) (cost:=[]) (κ:=1) (tv:=tv) (ys:=ys) hE.ent hP.sxr hC1 hpr1 htv (by rw [← rq_o1];exact hy)
 refine ⟨hDA.1,?_⟩
 rw [hDA.2]
 have h1:=hsum.1
 generalize T p.rows.length (colR p+p.rows.length)=tq at *
 grind
theorem ref_small {E:List (List Str)} {bs:List Nat} {T:Mx} {cost:List Int} {κ:Int} (hP:RefP D p) (hE:SxE D p.rows.length (colR p) (extR p.rows.length (R1 p) (C1 p cost κ)) E bs T):∀ i,i<p.rows.length→∀ j,j<colR p+p.rows.length+1→FrD 255 255 (cellM E i j):=fun i hi j hj =>
 grow_small (D1:=255) (d:=3) hE hP.sxr (sxC1 p cost κ) (by omega) (fun s hs c=>hP.d3 s hs c) hP.g1 (by have:=hP.dD;omega) (by omega) hi hj
theorem ref_second {E:List (List Str)} {bs:List Nat} {T:Mx} {pr:List Str} (hP:RefP D p) (hE:SxE D p.rows.length (colR p) (extR p.rows.length (R1 p) (C1 p [] 1)) E bs T) (hC:ClnP p.rows.length (colR p) T (bOf bs p.rows.length (colR p+p.rows.length+1)) p.rows.length) (hpr:TxL (colR p+p.rows.length+1) (PrP 255 (fun k=>((cstI (cs2 p) k:Int):Rat)) T (fun l=>bs.getD l 0) p.rows.length) pr) :
  ∃ T1,SxE D p.rows.length (colR p) (extR p.rows.length (R1 p) (C1 p p.cost 0)) (E.take p.rows.length ++ [pr]) bs T1∧Feas p.rows.length (colR p+p.rows.length+2) (colR p) (colR p+p.rows.length) (colR p+p.rows.length+1) (extR p.rows.length (R1 p) (C1 p p.cost 0)) T1 (bOf bs p.rows.length (colR p+p.rows.length+1))∧Idle p.rows.length (colR p) T1 (bOf bs p.rows.length (colR p+p.rows.length+1)):=by
 have hmm:=hP.mm
 have hdD:=hP.dD
 have hb:=bs_lt hE.blen hE.blt
 have hsm:=ref_small hP hE
 have htl:(E.take p.rows.length).length=p.rows.length:=by rw [List.length_take,hE.len];omega
 have hct:∀ i,i<p.rows.length→∀ j,cellM (E.take p.rows.length) i j=cellM E i j:=fun i hi j=>by unfold cellM;rw [take_getD hi]
 have hMat:Mat 255 255 (colR p+p.rows.length+1) (E.take p.rows.length):=fun r hr=>by
  obtain ⟨i,hi,rfl⟩:=List.getElem_of_mem hr
  rw [htl] at hi
  have hg:(E.take p.rows.length)[i]'(by omega)=E.getD i []:=by
   rw [← take_getD hi,List.getD_eq_getElem?_getD,List.getElem?_eq_getElem (by omega)];rfl
  have hw2:=hE.mat.row (i:=i) (by rw [hE.len];omega)
  rw [hg]
  refine ⟨hw2.1,fun a ha=>?_⟩
  obtain ⟨j,hj,e⟩:=mem_getD ha
  rw [e]
  exact hsm i hi j (by rw [← hw2.1];exact hj)
 have hTb:=ent_cut hE (fun i hi=>hP.sxr.top i hi) (sxC1 p [] 1).top
 obtain ⟨T4,hE4,hT4⟩:=charge_ent (D:=D) (D1:=255) (d:=3) (m:=p.rows.length) (ci:=colR p) (cst:=C1 p p.cost 0) hTb (fun i hi=>hP.sxr.top i hi) (sxC1 p p.cost 0).top htl hMat hP.d255 (fun i hi j hj=>by rw [hct i hi];exact hE.val i (by omega) j hj) hE.blen hE.blt (prp_congr hpr (fun j hj=>by rw [cs2_get p hj]) (fun l hl=>by have:=hb l hl;omega)) hmm (by omega) hP.e2 hP.g (by omega)
 exact ⟨T4,hE4,⟨hE4.tab,bOf_top _ _ _,fun i hi=>by rw [hT4 i hi];exact hC.pos i hi⟩,fun l hl hc=>⟨by rw [hT4 l hl];exact hC.zer l hl hc,fun j hj=>by rw [hT4 l hl];exact hC.done l hl hc j hj⟩⟩
theorem ref_vals {E:List (List Str)} {bs:List Nat} {T:Mx} {f:Int} {xs:List Str} (hP:RefP D p) (hE:PhEnd D p.rows.length (colR p) (extR p.rows.length (R1 p) (C1 p p.cost 0)) (Idle p.rows.length (colR p)) E bs T f) (hx:TxL p.cost.length (XkP false E (fun l=>bs.getD l 0) (colR p+p.rows.length) p.rows.length) xs) :
  PrimR 255 p xs∧costR p xs = -(T p.rows.length (colR p+p.rows.length)) :=
 gans_prim (D1:=255) (cost:=p.cost) (xs:=xs) hE.ent hP.sxr (sxC1 p p.cost 0) (ref_small hP hE.ent) (by omega) hE.feas.pos (fun l hl h=>(hE.inv l hl h).1) (hx.imp fun x hx s h=>h)
theorem ref_dual {E:List (List Str)} {bs:List Nat} {T:Mx} {f:Int} {tv:List Bool} {ys:List Str} (hP:RefP D p) (hE:PhEnd D p.rows.length (colR p) (extR p.rows.length (R1 p) (C1 p p.cost 0)) (Idle p.rows.length (colR p)) E bs T f) (hpr:∀ j,j<colR p→0≤T p.rows.length j) (htv:∀ i,i<p.rows.length→tv.getD i false=decide ((Num.rowAt p i).right<0)) (hy:DuL D p.rows.length (colR p) T (rq [48]) tv p.rows.length ys) :
  DualR (D+4) p p.cost ys∧rightR p ys = -(T p.rows.length (colR p+p.rows.length)) :=
 gans_dual (p:=p) (cost:=p.cost) (κ:=0) (tv:=tv) (ys:=ys) hE.ent hP.sxr (sxC1 p p.cost 0) hpr htv (by rw [← rq_z0];exact hy)
theorem ref_free {E:List (List Str)} {bs:List Nat} {T:Mx} {f:Int} {c:Nat} (hE:PhEnd D p.rows.length (colR p) (extR p.rows.length (R1 p) (C1 p p.cost 0)) (Idle p.rows.length (colR p)) E bs T f) (hneg:T p.rows.length c<0):∀ l,l<p.rows.length→bs.getD l 0≠c:=fun l hl e=>by
 have h2:=hE.ent.tab.base p.rows.length l (Nat.lt_succ_self _) (by omega)
 rw [bOf_lt hl,e] at h2
 rw [h2] at hneg
 unfold kron at hneg
 rw [if_neg (by omega)] at hneg
 exact absurd hneg (by decide)
theorem ref_ray {E:List (List Str)} {bs:List Nat} {T:Mx} {f:Int} {c:Nat} {xs:List Str} (hP:RefP D p) (hE:PhEnd D p.rows.length (colR p) (extR p.rows.length (R1 p) (C1 p p.cost 0)) (Idle p.rows.length (colR p)) E bs T f) (hc:c<colR p) (hneg:T p.rows.length c<0) (hno:∀ l,l<p.rows.length→T l c≤0)
  (hx:TxL p.cost.length (XkP true E (fun l=>bs.getD l 0) c p.rows.length) xs):RayR 257 p (if c<p.cost.length then xs.set c [49] else xs):=by
 have hfree:=ref_free hE hneg
 have hval:∀ l,l<p.rows.length→valK true (cellM E l c)=subQS [48] (cellM E l c):=fun l hl=>by
  unfold valK
  rw [if_pos rfl,(one_mul_t (ref_small hP hE.ent l hl c (by omega)) (by omega)).2]
 refine gans_ray (D1:=255) (κ:=0) (p:=p) hE.ent hP.sxr (sxC1 p p.cost 0) (ref_small hP hE.ent) (by omega) hc hneg hno (fun l hl h=>(hE.inv l hl h).2 c hc) ?_
 have hold:∀ x,x<p.cost.length→x≠c→∀ s,XkP true E (fun l=>bs.getD l 0) c p.rows.length x s→RyP E (fun l=>bs.getD l 0) c p.rows.length x s:=fun x _ hne s hs=>by
  rcases hs with ⟨l,h1,h2,h3⟩ | ⟨h1,h2⟩
  ·exact .inl ⟨l,h1,h2,by rw [h3,hval l h1]⟩
  ·exact .inr ⟨h1,fun e=>absurd e hne,fun _=>h2⟩
 by_cases e:c<p.cost.length
 ·rw [if_pos e]
  exact hx.set (.inr ⟨hfree,fun _=>rfl,fun h=>absurd rfl h⟩) hold
 ·rw [if_neg e]
  exact hx.imp fun x hx s hs=>hold x hx (by omega) s hs
end
structure Ph (D:Nat) (p:LinL) (n m ci:Nat) (c1 c2:List Int) (Ra Rb:Nat→Nat→Int) (T0:Mx):Prop where
 eci:ci=n+m
 n7:n≤7
 m7:m≤7
 g:gr m 3≤D
 d255:255≤D
 dD:3*D+16≤4096
 mm:8+(255+6)*m≤4096
 da:∀ s,s<m+1→∀ c,dl (Ra s c)≤3
 db:∀ s,s<m+1→∀ c,dl (Rb s c)≤3
 l1:c1.length=ci+m
 l2:c2.length=ci+m
 s1:∀ n ∈ c1,dl n≤5
 s2:∀ n ∈ c2,dl n≤5
 v1:∀ k,k<ci→cstI c1 k=0
 w1:∀ k,k<m→cstI c1 (ci+k)=1
 v2:∀ k,k<n→cstI c2 k=p.cost.getD k 0
 w2:∀ k,n≤k→cstI c2 k=0
 ku:∀ M bs tv,KuP p m M bs tv→M.length=m∧bs.length=m∧(∀ i,i<m→(M.getD i []).length=ci+m+1)∧(∀ i,i<m→∀ j,j<ci+m+1→FrD 255 255 (cellM M i j))∧(∀ i,i<m→∀ j,j<ci+m+1→T0 i j=rq (cellM M i j))∧(∀ x ∈ bs,x<ci+m)∧tv.length=m∧∀ i,i<m→tv.getD i false=decide ((Num.rowAt p i).right<0)
 first:∀ M bs tv pr,KuP p m M bs tv→TxL (ci+m+1) (PrP 255 (fun k=>((cstI c1 k:Int):Rat)) T0 (fun l=>bs.getD l 0) m) pr→∃ T1,SxE D m ci Ra (M ++ [pr]) bs T1∧Feas m (ci+m+2) ci (ci+m) (ci+m+1) Ra T1 (bOf bs m (ci+m+1))
 mid:∀ E bs T f,PhEnd D m ci Ra (fun _ _=>True) E bs T f→(T m (ci+m)=0→ClnP m ci T (bOf bs m (ci+m+1)) 0)∧(∀ (tv:List Bool) (ys:List Str),(∀ i,i<m→tv.getD i false=decide ((Num.rowAt p i).right<0))→DuL D m ci T (rq [49]) tv m ys→T m (ci+m)≠0→DualR (D+4) p [] ys∧0<rightR p ys)
 small:∀ E bs T,SxE D m ci Ra E bs T→∀ i,i<m→∀ j,j<ci+m+1→FrD 255 255 (cellM E i j)
 smallb:∀ E bs T,SxE D m ci Rb E bs T→∀ i,i<m→∀ j,j<ci+m+1→FrD 255 255 (cellM E i j)
 second:∀ E bs T pr,SxE D m ci Ra E bs T→ClnP m ci T (bOf bs m (ci+m+1)) m→TxL (ci+m+1) (PrP 255 (fun k=>((cstI c2 k:Int):Rat)) T (fun l=>bs.getD l 0) m) pr→∃ T1,SxE D m ci Rb (E.take m ++ [pr]) bs T1∧Feas m (ci+m+2) ci (ci+m) (ci+m+1) Rb T1 (bOf bs m (ci+m+1))∧Idle m ci T1 (bOf bs m (ci+m+1))
 vals:∀ E bs T f xs,PhEnd D m ci Rb (Idle m ci) E bs T f→TxL n (XkP false E (fun l=>bs.getD l 0) (ci+m) m) xs→PrimR 255 p xs∧costR p xs = -(T m (ci+m))
 dual:∀ E bs T f tv ys,PhEnd D m ci Rb (Idle m ci) E bs T f→(∀ j,j<ci→0≤T m j)→(∀ i,i<m→tv.getD i false=decide ((Num.rowAt p i).right<0))→DuL D m ci T (rq [48]) tv m ys→DualR (D+4) p p.cost ys∧rightR p ys = -(T m (ci+m))
 ray:∀ E bs T f c xs,PhEnd D m ci Rb (Idle m ci) E bs T f→c<ci→T m c<0→(∀ l,l<m→T l c≤0)→TxL n (XkP true E (fun l=>bs.getD l 0) c m) xs→RayR 257 p (if c<n then xs.set c [49] else xs)
theorem Ph.of {D:Nat} {p:LinL} (h:RefP D p):Ph D p p.cost.length p.rows.length (colR p) (cs1 p) (cs2 p) (extR p.rows.length (R1 p) (C1 p [] 1)) (extR p.rows.length (R1 p) (C1 p p.cost 0)) (ratM (R1 p)) where
 eci:=rfl
 n7:=h.n7
 m7:=h.m7
 g:=h.g
 d255:=h.d255
 dD:=h.dD
 mm:=h.mm
 da:=h.e1
 db:=h.e2
 l1:=cs1_len p
 l2:=cs2_len p
 s1:=cs1_dl p
 s2:=cs2_dl h
 v1:=fun k hk=>by
  have hc:p.cost.length≤colR p:=by unfold colR;omega
  rw [cs1_get p (by omega)];unfold C1
  by_cases e:k<p.cost.length
  ·rw [if_pos e];rfl
  ·rw [if_neg e,if_pos hk]
 w1:=fun k hk=>by
  have hc:p.cost.length≤colR p:=by unfold colR;omega
  rw [cs1_get p (by omega)];unfold C1
  rw [if_neg (by omega),if_neg (by omega),if_pos (by omega)]
 v2:=fun k hk=>by
  have hc:p.cost.length≤colR p:=by unfold colR;omega
  rw [cs2_get p (by omega)];unfold C1
  rw [if_pos hk]
 w2:=fun k hk=>by
  unfold cstI cs2
  rw [getD_appK,if_neg (by omega),getD_repK];split <;> rfl
 ku:=fun M bs tv hk=>by
  obtain ⟨k1,k2,k3,k4⟩:=ku_rows h hk
  refine ⟨hk.ml,hk.bl,fun i hi=>(hk.re i hi).1,fun i hi j hj=>?_,k3,k4,hk.tl,hk.te⟩
  exact k2.cell (by rw [hk.ml];exact hi) hj
 first:=fun M bs tv pr hk hpr=>ref_first h hk hpr
 mid:=fun E bs T f hE=>ref_mid h hE
 small:=fun E bs T hE=>ref_small h hE
 smallb:=fun E bs T hE=>ref_small h hE
 second:=fun E bs T pr hE hC hpr=>ref_second h hE hC hpr
 vals:=fun E bs T f xs hE hx=>ref_vals h hE hx
 dual:=fun E bs T f tv ys hE h1 h2 h3=>ref_dual h hE h1 h2 h3
 ray:=fun E bs T f c xs hE h1 h2 h3 h4=>ref_ray h hE h1 h2 h3 h4
end Go.Proofs.YtmppmdmekomjbaaGreatDoor

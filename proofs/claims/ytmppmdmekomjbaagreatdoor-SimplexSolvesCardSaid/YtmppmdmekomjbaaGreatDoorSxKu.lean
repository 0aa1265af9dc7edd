/- lorryref26: Solve of a program without faults. -/
import Derived.Test.YtmppmdmekomjbaaGreatDoorG50
import Derived.BigQuiet
namespace Go.Proofs.YtmppmdmekomjbaaGreatDoor
open Go.RowKit Num
set_option linter.unusedVariables false
attribute [local go_sem] B_size B_get B_toList B_mk B_extract B_append
attribute [local go_sem high] run_max2
set_option maxHeartbeats 8000000 in
set_option maxRecDepth 100000 in
theorem rxsolve_ph {D n m ci:Nat} {c1 c2:List Int} {Ra Rb:Nat→Nat→Int} {T0:Mx} (cost:List Int) (rs:List RowV) (A:Option Addr) (ca:Nat) (R:Option Addr) (cr:Nat) (w:World) (hp:LinAt w cost rs A ca R cr) (hPH:Ph D (linOf cost rs) n m ci c1 c2 Ra Rb T0) (hen:cost.length=n) (hem:rs.length=m) (hcr:colR (linOf cost rs)=ci) (hcl:checkK (linOf cost rs) m=[])
  (hw:∀ r ∈ rs,r.L.coef.length=cost.length) (hkd:∀ r ∈ rs,r.L.kind=1∨r.L.kind=2∨r.L.kind=3) (hsm:SmallL 18 18 (linOf cost rs)) :
  Calls Tryz.prog 11 #[linV A n ca R m cr] w fun e w'=>∃ (v:Value) (a:AnsL),e=.returned (.tuple #[v,.int .i64 0])∧AnsAt w' v a∧AnsR D (linOf cost rs) a∧Below w.heap.size w w':=by
 have hn7:=hPH.n7
 have hm7:=hPH.m7
 have HFI:=Lib.hid (fun w' (h:LinAt w' cost rs A ca R cr)=>rxfirst_any cost rs A ca R cr w' h hw hsm hkd (by omega) (by omega))
 have HCK:=Lib.hid (fun w' (h:LinAt w' cost rs A ca R cr)=>rlcheck_any cost rs A ca R cr w' (by omega) h)
 rw [hen,hem,hcr] at HFI
 rw [hen,hem,hcl] at HCK
 have b0:=new_below w (linO A n ca R m cr)
 have n2:=new_below (w.alloc (linO A n ca R m cr)) (.cells #[.int .i64 0,.slice none 0 0,.slice none 0 0,.slice none 0 0,.string (B [])] 31)
 have bB:=below_lift3 b0 n2
 have r2:=row_new (w:=w.alloc (linO A n ca R m cr)) (o:=.cells #[.int .i64 0,.slice none 0 0,.slice none 0 0,.slice none 0 0,.string (B [])] 31)
 rw [show (w.alloc (linO A n ca R m cr)).heap.size=w.heap.size+1 by simp] at r2
 obtain ⟨x0,x1,x2⟩:=lin_cells n2
 have HX:=Lib.hid (show ∀ w',Below ((w.alloc (linO A n ca R m cr)).alloc (.cells #[.int .i64 0,.slice none 0 0,.slice none 0 0,.slice none 0 0,.string (B [])] 31)).heap.size ((w.alloc (linO A n ca R m cr)).alloc (.cells #[.int .i64 0,.slice none 0 0,.slice none 0 0,.slice none 0 0,.string (B [])] 31)) w'→w'.cell? ⟨w.heap.size,0,none⟩=some (.slice A n ca)∧w'.cell? ⟨w.heap.size,1,none⟩=some (.slice R m cr) from fun w' h=>⟨(h.cell (p:=⟨w.heap.size,0,none⟩) x2).trans x0,(h.cell (p:=⟨w.heap.size,1,none⟩) x2).trans x1⟩)
 have HR2:=Lib.hid r2
 have HBB:=Lib.hid bB
 have HP:=Lib.hid hp
 have HPH:=Lib.hid hPH
 have HEN:=Lib.hid hen
 have HEM:=Lib.hid hem
 have hla:=hp.la
 have hlr:=hp.lr
 rw [hen] at hla
 rw [hem] at hlr
 unfold maxLen at hla hlr
 have heci:=hPH.eci
 have hmI:(2:Int)*(m:Int)=((2*m:Nat):Int):=by omega
 have hnI:(n:Int)+((2*m:Nat):Int)=((ci+m:Nat):Int):=by omega
 generalize hmme:2*m=mm at *
 generalize hre:ci+m=rr at *
 have hmmb:mm≤14:=by omega
 have hrrb:rr≤21:=by omega
 have hcib:ci≤14:=by omega
 have wmm:=wrap_nat (n:=mm) (by omega)
 have wrr:=wrap_nat (n:=rr) (by omega)
 have HRE:=Lib.hid hre
 have HECI:=Lib.hid heci
 clear hp hcl hw hkd hsm hPH bB r2 n2 x0 x1 x2 hen hem hcr hmme hre heci
 go_enter Tryz.func11,Tryz.ntmps11
 simp only [B_mk]
 go_upto_region 1 with fail
 generalize (w.alloc (linO A n ca R m cr)).alloc (.cells #[.int .i64 0,.slice none 0 0,.slice none 0 0,.slice none 0 0,.string (B [])] 31)=wB at *
 obtain ⟨y0,y1⟩:=HX.out wB (Below.refl _ _)
 have HCK1:=Lib.hid (HCK.out wB (HP.out.below HBB.out))
 go_wp2_with fail
 refine HCK1.out.mono ?_
 rintro e w1 ⟨⟨v,rfl,hF⟩,hb1⟩
 obtain ⟨F,cf,rfl,_⟩:=hF
 obtain ⟨x0,x1⟩:=HX.out w1 hb1
 have hpB1:=HP.out.below (below_lift3 HBB.out hb1)
 have HFI1:=Lib.hid (HFI.out w1 hpB1)
 clear HCK HCK1 HFI y0 y1 b0
 go_wp2_with fail
 refine HFI1.out.mono ?_
 rintro e w2 ⟨H,vs,bs,tv,rfl,hK,hKu,hb2⟩
 have n3:=new_below w2 (.cells #[.slice H.A vs.length H.c,.int .i64 n,.int .i64 ci,.slice H.Bb bs.length H.cb,.slice H.V tv.length H.cv,.bool false] 68)
 have hS3:SxK (w2.alloc (.cells #[.slice H.A vs.length H.c,.int .i64 n,.int .i64 ci,.slice H.Bb bs.length H.cb,.slice H.V tv.length H.cv,.bool false] 68)) w1.heap.size ⟨w2.heap.size,H.A,H.c,H.Bb,H.cb,H.V,H.cv⟩ n ci vs bs tv:=by
  have h2:=hK.below n3
  exact ⟨hb2.size,row_new,⟨h2.outer,h2.rows,h2.bas,h2.tur⟩⟩
 have hb03:=below_lift3 (below_lift3 hb1 hb2) n3
 have hkt1:w1.heap.size≤w2.heap.size:=hb2.size
 have hB1:wB.heap.size≤w1.heap.size:=hb1.size
 have HS3:=Lib.hid hS3
 have HB03:=Lib.hid hb03
 have HKU:=Lib.hid hKu
 obtain ⟨y0,y1⟩:=HX.out _ hb03
 clear x0 x1 HFI1 hS3 hb03 hKu hK n3
 go_wp2_with fail
 generalize w2.alloc (.cells #[.slice H.A vs.length H.c,.int .i64 n,.int .i64 ci,.slice H.Bb bs.length H.cb,.slice H.V tv.length H.cv,.bool false] 68)=w3 at *
 go_quiet (fail)
 have hbq:=below_drewN (Below.refl w3.heap.size w3) nq
 have HS4:=Lib.hid (HS3.out.below hbq)
 have HB4:=Lib.hid (below_lift3 HB03.out hbq)
 clear hbq y0 y1 HS3 HB03
 generalize w3.drewN nq=w4 at *
 clear nq w3
 obtain ⟨H3,kt,hk3,hk0,hS4⟩:∃ (H3:KH) (kt:Nat),kt=w2.heap.size∧H3.kt=kt∧SxK w4 w1.heap.size H3 n ci vs bs tv:=⟨_,_,rfl,rfl,HS4.out⟩
 rw [← hk3]
 clear HS4
 have HS4:=Lib.hid hS4
 have HK0:=Lib.hid hk0
 have hktB:w1.heap.size≤kt:=by rw [hk3];exact hkt1
 clear hS4 hk3 hk0 hb2 hkt1
 go_wp2_with (refine wp_mkn el_bint rfl _ _ rfl w4.heap.size _ .i64 .i64 _ _ rr rfl rfl rfl rfl (by omega) (by unfold maxLen;omega) (Nat.le_refl _) rfl ?_;intro X0 wA hown0 hbA)
 have HST:=Lib.hid (show ∃ xs:List Int,OwnS wA w4.heap.size 3 X0 rr rr (ints xs)∧IxZ (cstI c1) ci xs rr from ⟨List.replicate rr 0,by rw [← ints_repK];exact hown0,IxZ.new HPH.out.v1⟩)
 clear hown0
 go_loopw [9] (fun i wr=>∃ (j:Nat) (xs:List Int),j≤m∧i=.int .i64 j∧OwnS wr w4.heap.size 3 X0 rr rr (ints xs)∧IxZ (cstI c1) (ci+j) xs rr∧Below w4.heap.size w4 wr) (fun i _=>m - (intOf i).toNat)
 case atStart =>
  obtain ⟨xs,h1,h2⟩:=HST.out
  exact ⟨0,xs,Nat.zero_le _,rfl,h1,h2,hbA⟩
 case round =>
  clear HST hbA
  obtain ⟨j,xs,hj,rfl,hown,hix,hb⟩:=hrel
  have HOW:=Lib.hid hown
  have HIX:=Lib.hid hix
  have HBO:=Lib.hid hb
  have hS5:=HS4.out.below hb
  by_cases hlj:j<m
  ·have hcj:ci+j<rr:=by have:=HRE.out;omega
   have hcI:(ci:Int)+(j:Int)=((ci+j:Nat):Int):=by omega
   have HV:=Lib.hid (HPH.out.w1 j hlj)
   generalize hqe:ci+j=q at *
   have hq21:q≤21:=by omega
   have wq:=wrap_nat (n:=q) (by omega)
   obtain ⟨gx,e,hgx1,hgw,hgc,hgf⟩:=hown.at_ (by omega)
   subst e
   have HN:=Lib.hid (hix.put (v:=1) hcj HV.out.symm)
   have hown2:=HOW.out.stored q (.int .i64 1)
   rw [ints_setK] at hown2
   have hb3:=hb.setCell hgx1 (.int .i64 1) (p:=⟨gx,q,none⟩)
   have dq:=hgc q hcj
   have hqx:q<xs.length:=by rw [hix.1];exact hcj
   have d0:wr.cell? ⟨gx,q,none⟩=some (.int .i64 xs[q]):=by rw [dq];unfold ints;rw [List.getElem?_map,List.getElem?_eq_getElem hqx];rfl
   have d1:=hgf q
   have e2:=hS5.cell 2
   rw [HK0.out] at e2
   have HQ:=Lib.hid hqe
   generalize xs[q]=u at *
   clear hgc hgf hown hix hb hS5 hqe dq
   go_wp2_with fail
   go_roundw
   case rel=>exact ⟨j+1,_,by omega,by go_num,hown2,by have h1:=HQ.out;rw [show ci+(j+1)=q+1 by omega];exact HN.out,hb3⟩
   case measure=>simp [intOf];omega
  ·have hjx:¬ (j:Int)<(m:Int):=by omega
   have hxc:xs=c1:=HIX.out.out (by rw [HPH.out.l1,HRE.out]) (fun k h1 h2=>by have:=HRE.out;omega)
   subst hxc
   obtain ⟨hml,hbl,hrow,hfr,hT0,hbx,htl,hte⟩:=HPH.out.ku _ _ _ HKU.out
   rw [HRE.out] at hrow hfr hT0 hbx
   have hvl:vs.length=m:=by rw [← rtx_length];exact hml
   have HPC:=Lib.hid (rxprice_any (m:=m) (N0:=rr) (D1:=255) (T:=T0) xs X0 rr w1.heap.size wr hS5 hbl (by omega) hrow hfr hT0 hbx hown.cells (by rw [HPH.out.l1,HRE.out]) ⟨Nat.le_refl _,by unfold maxLen;omega⟩ HPH.out.s1 (by omega) (by omega) (by omega) HPH.out.mm)
   rw [HK0.out] at HPC
   have HTE:=Lib.hid hte
   have HTL:=Lib.hid htl
   have HVL:=Lib.hid hvl
   have HB5:=Lib.hid (below_lift3 HB4.out hb)
   have hB1w:wB.heap.size≤w1.heap.size:=hB1
   clear HOW HIX HBO hS5 hml hbl hrow hfr hT0 hbx htl hte hvl hown hix hb hlj hj HS4 HB4
   go_wp2_with fail
   refine HPC.out.mono ?_
   rintro e w5 ⟨rfl,⟨H5,vs5,pr,hk5,hS5,hrt5,hpr⟩,hb5⟩
   have hb05:=HB5.out.trans (hb5.1.mono hB1)
   rw [← HRE.out] at hpr
   obtain ⟨T1,hE1,hF1⟩:=HPH.out.first _ _ _ _ HKU.out hpr
   have htk:(rtx vs).take m=rtx vs:=List.take_of_length_le (by rw [rtx_length,HVL.out];exact Nat.le_refl _)
   rw [htk] at hrt5
   rw [← hrt5] at hE1
   have HRU:=Lib.hid (rxrun_any (D:=D) (d:=3) (J:=fun _ _=>True) (by omega) (fun s hs c _=>HPH.out.da s hs c) HPH.out.g (by have:=HPH.out.dD;omega) (fun _ _ _ _ _ _ _=>trivial) hE1 hF1 trivial w1.heap.size w5 hS5 (by omega) (by omega))
   rw [hk5] at HRU
   have e2:=hS5.cell 2
   rw [hk5] at e2
   clear HPC hS5 hrt5 hpr hb5 hE1 hF1 htk
   go_wp2_with fail
   refine HRU.out.mono ?_
   rintro e w6 ⟨f1,vs6,bs6,T2,rfl,hS6,hEnd,hb6⟩
   have hb06:=hb05.trans (hb6.1.mono hB1)
   have hm6:=HPH.out.mid _ _ _ _ hEnd
   have hE6:=hEnd.ent
   have hv6:vs6.length=m+1:=by rw [← rtx_length];exact hE6.len
   have hrl6:((rtx vs6).getD m []).length=rr+1:=by rw [← HRE.out];exact (hE6.mat.row (by rw [hE6.len];omega)).1
   obtain ⟨gA,br,ro,cl,hcl1,hcl2,hsay⟩:=hS6.sayA (i:=m) (by omega) (by omega)
   rw [hk5,hv6,hrl6] at hsay
   rw [hrl6] at hcl1
   unfold maxLen at hcl2
   have hcapA:=hS6.part.outer.cap
   rw [hv6] at hcapA
   unfold maxLen at hcapA
   have hzz:=hE6.zero (i:=m) (j:=rr) (by have:=HPH.out.dD;omega) (by omega) (by have:=HRE.out;omega)
   have HZZ:=Lib.hid hzz
   have HM6:=Lib.hid hm6
   have HEND:=Lib.hid hEnd
   have n7:=new_below w6 (.cells #[.int .i64 2,.slice none 0 0,.slice none 0 0,.slice none 0 0,.string (B [])] 31)
   have r7:=row_new (w:=w6) (o:=.cells #[.int .i64 2,.slice none 0 0,.slice none 0 0,.slice none 0 0,.string (B [])] 31)
   have hS7:=hS6.below n7
   have c5:=hS7.cell 5
   rw [hk5] at c5
   obtain ⟨y0,y1,y2⟩:=hsay _ n7
   have yt:=y2 rr (by omega)
   clear y2
   have HS7:=Lib.hid hS7
   have HB7:=Lib.hid (below_lift3 hb06 n7)
   have HK5:=Lib.hid hk5
   have HR7:=Lib.hid r7
   have hw1B:w1.heap.size≤w6.heap.size:=by have h1:=hS6.base;have h2:=hS6.lt;omega
   have hktg:kt<w6.heap.size:=by have h2:=hS6.lt;rw [hk5] at h2;exact h2
   clear HRU hS6 hEnd hb6 hb06 hm6 hE6 hrl6 hsay hzz n7 r7 hS7 hk5 e2 hv6 hb05
   go_upto_region 15 with fail
   generalize w6.alloc (.cells #[.int .i64 2,.slice none 0 0,.slice none 0 0,.slice none 0 0,.string (B [])] 31)=w7 at *
   obtain ⟨ga,hga⟩:∃ ga,ga=w6.heap.size:=⟨_,rfl⟩
   rw [← hga]
   rw [← hga] at HR7 hw1B hktg
   clear hga
   have HGB:=Lib.hid (show wB.heap.size≤ga by omega)
   have HNE:=Lib.hid (show w.heap.size+1≠ga by have:=lt_of_heap HR2.out;omega)
   have HKG:=Lib.hid (show kt≠ga by omega)
   have HSS:=Lib.hid (show RsS w7 wB w1.heap.size H5 n ci vs6 bs6 tv ga (w.heap.size+1) _ from ⟨HS7.out,HR7.out,row_on HR2.out HB7.out,HB7.out⟩)
   generalize htt:cellM (rtx vs6) m rr=tt at *
   clear htt
   by_cases hz:tt=[48]
   ·have hz0:T2 m rr=0:=HZZ.out.2 hz
    rw [hz] at yt
    have HC0:=Lib.hid (HM6.out.1 (by rw [HRE.out];exact hz0))
    clear HM6 HZZ hz hz0
    have HCLE:=Lib.hid (rxclear_any (D:=D) (d:=3) (by omega) (fun s hs c _=>HPH.out.da s hs c) HPH.out.g (by have:=HPH.out.dD;omega) HEND.out.ent HC0.out w1.heap.size w7 HS7.out (by omega) (by omega) (by have h1:=HS7.out.base;have h2:=HS7.out.lt;omega))
    rw [HK5.out] at HCLE
    go_wp2_with fail
    refine HCLE.out.mono ?_
    rintro e w8 ⟨rfl,⟨vs8,bs8,T8,hS8,hE8,hC8⟩,hb8⟩
    have HB8:=Lib.hid (HB7.out.trans (hb8.1.mono hB1))
    have HR8:=Lib.hid (hb8.2 _ _ _ HR7.out)
    have HS8:=Lib.hid hS8
    have HE8:=Lib.hid hE8
    have HC8:=Lib.hid hC8
    clear HCLE hS8 hE8 hC8 hb8 yt y0 y1 c5 HEND HC0
    go_wp2_with (refine wp_mkn el_bint rfl _ _ rfl w8.heap.size _ .i64 .i64 _ _ rr rfl rfl rfl rfl (by omega) (by unfold maxLen;omega) (Nat.le_refl _) rfl ?_;intro X1 wC hown1 hbC)
    have HST:=Lib.hid (show ∃ xs:List Int,OwnS wC w8.heap.size 3 X1 rr rr (ints xs)∧IxZ (cstI c2) 0 xs rr from ⟨List.replicate rr 0,by rw [← ints_repK];exact hown1,IxZ.new fun k hk=>absurd hk (Nat.not_lt_zero _)⟩)
    clear hown1
    go_loopw [12] (fun i wr=>∃ (j:Nat) (xs:List Int),j≤n∧i=.int .i64 j∧OwnS wr w8.heap.size 3 X1 rr rr (ints xs)∧IxZ (cstI c2) j xs rr∧Below w8.heap.size w8 wr) (fun i _=>n - (intOf i).toNat)
    case atStart =>
     obtain ⟨xs,h1,h2⟩:=HST.out
     exact ⟨0,xs,Nat.zero_le _,rfl,h1,h2,hbC⟩
    case round =>
     clear HST hbC
     obtain ⟨j,xs,hj,rfl,hown,hix,hb⟩:=hrel
     have HOW:=Lib.hid hown
     have HIX:=Lib.hid hix
     have hB9:=below_lift3 HB8.out hb
     by_cases hlj:j<n
     ·have hjr:j<rr:=by have:=HRE.out;have:=HECI.out;omega
      have hlc:j<cost.length:=by rw [HEN.out];exact hlj
      obtain ⟨bc,oc,hA,dc⟩:=ints_at (HP.out.below (below_lift3 HBB.out hB9)).cells hlc
      obtain ⟨y0,y1⟩:=HX.out wr hB9
      rw [hA] at y0
      have HV:=Lib.hid (show cstI c2 j=cost[j] by
       rw [HPH.out.v2 j hlj]
       show cost.getD j 0=_
       rw [List.getD_eq_getElem?_getD,List.getElem?_eq_getElem hlc];rfl)
      obtain ⟨gx,e,hgx1,hgw,hgc,hgf⟩:=hown.at_ (by omega)
      subst e
      have HN:=Lib.hid (hix.put (v:=cost[j]) hjr HV.out.symm)
      have hown2:=HOW.out.stored j (.int .i64 cost[j])
      rw [ints_setK] at hown2
      have hb3:=hb.setCell hgx1 (.int .i64 cost[j]) (p:=⟨gx,j,none⟩)
      have dq:=hgc j hjr
      have hqx:j<xs.length:=by rw [hix.1];exact hjr
      have d0:wr.cell? ⟨gx,j,none⟩=some (.int .i64 xs[j]):=by rw [dq];unfold ints;rw [List.getElem?_map,List.getElem?_eq_getElem hqx];rfl
      have d1:=hgf j
      clear HV
      generalize xs[j]=u at *
      generalize cost[j]=cj at *
      clear hgc hgf hown hix hb dq hB9 y1 hqx
      go_wp2_with fail
      go_roundw
      case rel=>exact ⟨j+1,_,by omega,by go_num,hown2,HN.out,hb3⟩
      case measure=>simp [intOf];omega
     ·have hjn:j=n:=by omega
      have hjx:¬ (j:Int)<(n:Int):=by omega
      have hxc:xs=c2:=HIX.out.out (by rw [HPH.out.l2,HRE.out]) (fun k h1 h2=>HPH.out.w2 k (by omega))
      subst hxc
      have hE8:=HE8.out
      have hvl8:vs8.length=m+1:=by rw [← rtx_length];exact hE8.len
      have hfr8:=HPH.out.small _ _ _ hE8
      rw [HRE.out] at hfr8
      have HPC2:=Lib.hid (rxprice_any (m:=m) (N0:=rr) (D1:=255) (T:=T8) xs X1 rr w1.heap.size wr (HS8.out.below hb) hE8.blen (by omega) (fun i hi=>by rw [← HRE.out];exact (hE8.mat.row (by rw [hE8.len];omega)).1) hfr8 (fun i hi j hj=>hE8.val i (by omega) j (by rw [HRE.out];exact hj)) (fun x hx=>by rw [← HRE.out];exact hE8.blt x hx) hown.cells (by rw [HPH.out.l2,HRE.out]) ⟨Nat.le_refl _,by unfold maxLen;omega⟩ HPH.out.s2 (by omega) (by omega) (by omega) HPH.out.mm)
      rw [HK5.out] at HPC2
      have HR9:=Lib.hid (row_on HR8.out hb)
      have HB9:=Lib.hid hB9
      clear hE8 hfr8 hown hix hb hB9 HOW HIX HS8
      go_wp2_with fail
      refine HPC2.out.mono ?_
      rintro e w9 ⟨rfl,⟨H9,vs9,pr9,hk9,hS9,hrt9,hpr9⟩,hb9⟩
      rw [← HRE.out] at hpr9
      obtain ⟨T9,hE9,hF9,hI9⟩:=HPH.out.second _ _ _ _ HE8.out HC8.out hpr9
      rw [← hrt9] at hE9
      have HRU2:=Lib.hid (rxrun_any (D:=D) (d:=3) (J:=Idle m ci) (by omega) (fun s hs c _=>HPH.out.db s hs c) HPH.out.g (by have:=HPH.out.dD;omega) (fun _ _ _ _ h1 h2 h3=>idle_next h1 h2 h3) hE9 hF9 hI9 w1.heap.size w9 hS9 (by omega) (by omega))
      rw [hk9] at HRU2
      have e2:=hS9.cell 2
      rw [hk9] at e2
      have HB10:=Lib.hid (HB9.out.trans (hb9.1.mono hB1))
      have HR10:=Lib.hid (hb9.2 _ _ _ HR9.out)
      have HK9:=Lib.hid hk9
      clear HPC2 HE8 HC8 HR9 HB9 hpr9 hrt9 hE9 hF9 hI9 hS9 hb9 hk9 HR8 HB8
      go_wp2_with fail
      refine HRU2.out.mono ?_
      rintro e w10 ⟨f2,vsA,bsA,TA,rfl,hSA,hEA,hbA⟩
      have hvlA:vsA.length=m+1:=by rw [← rtx_length];exact hEA.ent.len
      have hsmA:=HPH.out.smallb _ _ _ hEA.ent
      rw [HRE.out] at hsmA
      have HSMA:=Lib.hid hsmA
      have hrowA:∀ i,i<m→((rtx vsA).getD i []).length=rr+1:=fun i hi=>by rw [← HRE.out];exact (hEA.ent.mat.row (by rw [hEA.ent.len];omega)).1
      have HROWA:=Lib.hid hrowA
      have HVA:=Lib.hid (rxvalues_any (m:=m) (c:=rr) false w1.heap.size w10 hSA hEA.ent.blen (by omega) (fun i hi=>by rw [hrowA i hi];omega) (fun i hi=>by rw [hrowA i hi];omega) (val_ok false fun i hi=>hsmA i hi rr (by omega)) (by omega) (by omega) (by omega) (by omega))
      rw [HK9.out] at HVA
      have HSA:=Lib.hid hSA
      have HEA:=Lib.hid hEA
      have HVLA:=Lib.hid hvlA
      have HB11:=Lib.hid (HB10.out.trans (hbA.1.mono hB1))
      have HR11:=Lib.hid (hbA.2 _ _ _ HR10.out)
      clear HRU2 hSA hEA hbA HB10 HR10 hsmA hrowA hvlA e2
      go_wp2_with fail
      refine HVA.out.mono ?_
      rintro e w12 ⟨X3,cx3,xs3,rfl,hX3,hxs3,hbV⟩
      have hvals:=HPH.out.vals _ _ _ _ _ HEA.out (by rw [HRE.out];exact hxs3)
      have HVALS:=Lib.hid hvals
      have HXL3:=Lib.hid hxs3.1
      have hs12:RsS w12 wB w1.heap.size H9 n ci vsA bsA tv ga (w.heap.size+1) _:=⟨HSA.out.below hbV,row_on HR11.out hbV,row_on HR2.out (below_lift3 HB11.out hbV),below_lift3 HB11.out hbV⟩
      obtain ⟨⟨q0,q1,q2,q3,q4⟩,z0,z1,z2,z3,z4⟩:=row_cells5 hs12.ans
      have hs13:=hs12.put HNE.out HGB.out 1 (.slice X3 n cx3)
      have hX13:=hs12.own hX3 1 (.slice X3 n cx3)
      have HS13:=Lib.hid hs13
      have HX13:=Lib.hid hX13
      clear HVA hX3 hxs3 hbV hvals HR11 HB11 HSA hs12 hs13 hX13
      go_upto_region 29 with fail
      generalize w12.setCell ⟨ga,1,none⟩ (.slice X3 n cx3)=w13 at *
      clear q0 q1 q2 q3 q4 z0 z1 z2 z3 z4
      obtain ⟨⟨q0,q1,q2,q3,q4⟩,z0,z1,z2,z3,z4⟩:=row_cells5 HS13.out.ans
      rcases HEA.out.fin with ⟨rfl,hprA⟩ | ⟨c,rfl,hcA,hnegA,hnoA⟩
      ·have HPRA:=Lib.hid hprA
       have hs14:=HS13.out.put HNE.out HGB.out 0 (.int .i64 1)
       have HX14:=Lib.hid (HS13.out.own HX13.out 0 (.int .i64 1))
       have HS14:=Lib.hid hs14
       clear hprA hs14 HS13 HX13
       go_upto_region 35 with fail
       generalize w13.setCell ⟨ga,0,none⟩ (.int .i64 1)=w14 at *
       clear q0 q1 q2 q3 q4 z0 z1 z2 z3 z4
       have HDU:=Lib.hid (rxduals_any [48] (.inl rfl) HEA.out.ent (by have:=HPH.out.dD;omega) w1.heap.size w14 HS14.out.tab HTL.out (by omega) (by omega))
       rw [HK9.out] at HDU
       go_wp2_with fail
       refine HDU.out.mono ?_
       rintro e w15 ⟨Y,cy,ys,rfl,hY,hDu,hb15⟩
       have hs15:=HS14.out.below hb15
       have hX15:=HX14.out.below hb15
       obtain ⟨⟨q0,q1,q2,q3,q4⟩,z0,z1,z2,z3,z4⟩:=row_cells5 hs15.ans
       have HS16:=Lib.hid (hs15.put HNE.out HGB.out 2 (.slice Y m cy))
       have HX16:=Lib.hid (hs15.own hX15 2 (.slice Y m cy))
       have HY16:=Lib.hid (hs15.own hY 2 (.slice Y m cy))
       have HDUA:=Lib.hid hDu
       clear hs15 hX15 hY hDu HS14 HX14 hb15 HDU
       go_upto_region 36 with fail
       generalize w15.setCell ⟨ga,2,none⟩ (.slice Y m cy)=w16 at *
       clear q0 q1 q2 q3 q4 z0 z1 z2 z3 z4
       obtain ⟨⟨q0,q1,q2,q3,q4⟩,z0,z1,z2,z3,z4⟩:=row_cells5 HS16.out.ans
       obtain ⟨y0,y1⟩:=HX.out w16 HS16.out.bel
       have hlenx:=fr_lens HVALS.out.1.fr (by omega)
       have hc7:cost.length*(21+255)≤7*(21+255):=Nat.mul_le_mul_right _ (by have:=HEN.out;omega)
       have htm:=times_ok (K:=255) (ns:=cost) (xs:=xs3) (by rw [HEN.out,HXL3.out]) HP.out.fit HVALS.out.1.fr (by omega) (by omega)
       have HVL:=Lib.hid (rlval_any cost rs A ca R cr xs3 X3 cx3 w16 (HP.out.below (below_lift3 HBB.out HS16.out.bel)) (ratsAt_own HX16.out HXL3.out hlenx))
       rw [htm.1,HXL3.out,HEN.out,HEM.out] at HVL
       have HTV:=Lib.hid (show timesQ cost xs3=((timesQ cost xs3).1,0) from Prod.ext rfl htm.1)
       have HLX:=Lib.hid hlenx
       clear htm hlenx hc7
       generalize hval:(timesQ cost xs3).1=val at *
       clear hval
       go_wp2_with fail
       refine HVL.out.mono ?_
       rintro e w17 ⟨rfl,hb17⟩
       have hs17:=HS16.out.below hb17
       have hX17:=HX16.out.below hb17
       have hY17:=HY16.out.below hb17
       have c5:=hs17.tab.cell 5
       have u5:=hs17.tab.free 5
       rw [HK9.out] at c5 u5
       have hs18:=hs17.bad (by rw [HK9.out];exact HKG.out) (by rw [HK9.out];have:=lt_of_heap HR2.out;omega) (by rw [HK9.out];omega)
       have hX18:=hs17.ownB hX17 (.bool false)
       have hY18:=hs17.ownB hY17 (.bool false)
       rw [HK9.out] at hs18 hX18 hY18
       have HS18:=Lib.hid hs18
       have HX18:=Lib.hid hX18
       have HY18:=Lib.hid hY18
       clear hs17 hX17 hY17 hs18 hX18 hY18 HS16 HX16 HY16 hb17 HVL y0 y1 q0 q1 q2 q3 q4 z0 z1 z2 z3 z4
       go_upto_region 38 with fail
       generalize w17.setCell ⟨kt,5,none⟩ (.bool false)=w18 at *
       clear c5 u5
       obtain ⟨⟨q0,q1,q2,q3,q4⟩,z0,z1,z2,z3,z4⟩:=row_cells5 HS18.out.ans
       have hs19:=HS18.out.put HNE.out HGB.out 4 (.string (B val))
       have hX19:=HS18.out.own HX18.out 4 (.string (B val))
       have hY19:=HS18.out.own HY18.out 4 (.string (B val))
       clear HS18 HX18 HY18
       go_upto_region 39 with fail
       generalize w18.setCell ⟨ga,4,none⟩ (.string (B val))=w19 at *
       clear q0 q1 q2 q3 q4 z0 z1 z2 z3 z4
       obtain ⟨⟨q0,q1,q2,q3,q4⟩,z0,z1,z2,z3,z4⟩:=row_cells5 hs19.ans
       obtain ⟨⟨p0,p1,p2,p3,p4⟩,u0,u1,u2,u3,u4⟩:=row_cells5 hs19.res
       have c5:=hs19.tab.cell 5
       rw [HK9.out] at c5
       go_wp2_with fail
       have hDA:=HPH.out.dual _ _ _ _ _ _ HEA.out HPRA.out HTE.out HDUA.out
       have hlen:=fr_lens hDA.1.fr (by have:=HPH.out.dD;omega)
       (try simp only [Exit.inBlock,Exit.then])
       refine bodyPost_ret (rsolve_res (row_set5 hs19.res) rfl rfl) rfl ?_
       refine ⟨_,⟨1,xs3,ys,[],val⟩,rfl,⟨X3,Y,none,cx3,cy,0,?_,ratsAt_own (hX19.kept kept5 (hX19.not hs19.res (by decide))) HXL3.out HLX.out,ratsAt_own (hY19.kept kept5 (hY19.not hs19.res (by decide))) HDUA.out.1 hlen,ratsAt_nil _⟩,.inl ⟨rfl,rfl,HVALS.out.1,hDA.1,HTV.out,?_⟩,below5 (HBB.out.trans (hs19.bel.mono HBB.out.size)) (Nat.le_succ _)⟩
       ·show _=ansV 1 (.slice X3 xs3.length cx3) (.slice Y ys.length cy) (.slice none 0 0) val
        rw [HDUA.out.1,HXL3.out]
       ·rw [hDA.2];exact HVALS.out.2.symm
      ·have HNEG:=Lib.hid hnegA
       have HNO:=Lib.hid hnoA
       have hc0:(0:Int)≤(c:Int):=by omega
       have hs14:=HS13.out.put HNE.out HGB.out 0 (.int .i64 3)
       have HX14:=Lib.hid (HS13.out.own HX13.out 0 (.int .i64 3))
       have HS14:=Lib.hid hs14
       clear hnegA hnoA hs14 HS13 HX13
       go_upto_region 31 with fail
       generalize w13.setCell ⟨ga,0,none⟩ (.int .i64 3)=w14 at *
       clear q0 q1 q2 q3 q4 z0 z1 z2 z3 z4
       have HVB:=Lib.hid (rxvalues_any (m:=m) (c:=c) true w1.heap.size w14 HS14.out.tab HEA.out.ent.blen (by have:=HVLA.out;omega) (fun i hi=>by rw [HROWA.out i hi];have:=HRE.out;omega) (fun i hi=>by rw [HROWA.out i hi];omega) (val_ok true fun i hi=>HSMA.out i hi c (by have:=HRE.out;omega)) (by omega) (by omega) (by have:=HVLA.out;omega) (by omega))
       rw [HK9.out] at HVB
       go_wp2_with fail
       refine HVB.out.mono ?_
       rintro e w15 ⟨Y,cy,ys,rfl,hY,hys,hb15⟩
       have hs15:=HS14.out.below hb15
       have hX15:=HX14.out.below hb15
       obtain ⟨⟨q0,q1,q2,q3,q4⟩,z0,z1,z2,z3,z4⟩:=row_cells5 hs15.ans
       have HS16:=Lib.hid (hs15.put HNE.out HGB.out 3 (.slice Y n cy))
       have HX16:=Lib.hid (hs15.own hX15 3 (.slice Y n cy))
       have HY16:=Lib.hid (hs15.own hY 3 (.slice Y n cy))
       have HRAY:=Lib.hid (HPH.out.ray _ _ _ _ _ _ HEA.out hcA HNEG.out HNO.out hys)
       have HYL:=Lib.hid hys.1
       have HXB:=Lib.hid (show ∀ g,X3=some ⟨g,0,none⟩→g<w14.heap.size from fun g e=>by have h1:=HX14.out;rw [e] at h1;exact h1.typ.2.1)
       clear hs15 hX15 hY hys HX14 hb15 HVB
       go_upto_region 32 with fail
       generalize w15.setCell ⟨ga,3,none⟩ (.slice Y n cy)=w16 at *
       clear q0 q1 q2 q3 q4 z0 z1 z2 z3 z4
       obtain ⟨⟨q0,q1,q2,q3,q4⟩,z0,z1,z2,z3,z4⟩:=row_cells5 HS16.out.ans
       have hlx:=fr_lens HVALS.out.1.fr (by omega)
       have c5:=HS16.out.tab.cell 5
       rw [HK9.out] at c5
       by_cases hcn:c<n
       ·have hcI:(c:Int)<(n:Int):=by omega
        have hray:=HRAY.out
        rw [if_pos hcn] at hray
        have HRY:=Lib.hid hray
        obtain ⟨gy,e,hgy1,hgy2,hgyc,hgyf⟩:=HY16.out.at_ (by omega)
        subst e
        have d0:=hgyc c hcn
        rw [strs_get _ _ (by rw [HYL.out];exact hcn)] at d0
        have d1:=hgyf c
        have hk:=(KeptB.refl gy w16).store c (.string (B [49]))
        have hnA:ga≠gy:=fun e=>HY16.out.not HS16.out.ans (by decide) (by rw [e])
        have hnR:w.heap.size+1≠gy:=fun e=>HY16.out.not HS16.out.res (by decide) (by rw [e])
        have hobj:=HS16.out.tab.obj
        rw [HK9.out] at hobj
        have hnK:kt≠gy:=fun e=>HY16.out.not hobj (by decide) (by rw [e])
        have hA17:=(hk.2 _ (lt_of_heap HS16.out.ans) hnA).trans HS16.out.ans
        have hR17:=(hk.2 _ (lt_of_heap HS16.out.res) hnR).trans HS16.out.res
        have c17:=(cell_at (hk.2 _ (lt_of_heap hobj) hnK) 5).trans c5
        have hX17:=HX16.out.kept hk (fun e=>by have h1:=HXB.out gy e;omega)
        have hY17:=HY16.out.stored c (.string (B [49]))
        rw [strs_set] at hY17
        have hb17:=HS16.out.bel.setCell (show wB.heap.size≤gy by have:=HS14.out.bel.size;omega) (.string (B [49])) (p:=⟨gy,c,none⟩)
        clear hgyc hgyf hray hk hobj c5
        generalize ys.getD c []=u0 at *
        go_upto_region 39 with fail
        generalize w16.setCell ⟨gy,c,none⟩ (.string (B [49]))=w17 at *
        clear q0 q1 q2 q3 q4 z0 z1 z2 z3 z4 d0 d1
        obtain ⟨⟨q0,q1,q2,q3,q4⟩,z0,z1,z2,z3,z4⟩:=row_cells5 hA17
        obtain ⟨⟨p0,p1,p2,p3,p4⟩,u0,u1,u2,u3,u4⟩:=row_cells5 hR17
        go_wp2_with fail
        have hlen:=fr_lens HRY.out.fr (by omega)
        (try simp only [Exit.inBlock,Exit.then])
        refine bodyPost_ret (rsolve_res (row_set5 hR17) rfl rfl) rfl ?_
        refine ⟨_,⟨3,xs3,[],ys.set c [49],[]⟩,rfl,⟨X3,none,some ⟨gy,0,none⟩,cx3,0,cy,?_,ratsAt_own (hX17.kept kept5 (hX17.not hR17 (by decide))) HXL3.out hlx,ratsAt_nil _,ratsAt_own (hY17.kept kept5 (hY17.not hR17 (by decide))) (by rw [List.length_set];exact HYL.out) hlen⟩,.inr (.inr ⟨rfl,rfl,rfl,HVALS.out.1,HRY.out⟩),below5 (HBB.out.trans (hb17.mono HBB.out.size)) (Nat.le_succ _)⟩
        show _=ansV 3 (.slice X3 xs3.length cx3) (.slice none 0 0) (.slice (some ⟨gy,0,none⟩) (ys.set c [49]).length cy) []
        rw [List.length_set,HYL.out,HXL3.out]
       ·have hcI:¬ (c:Int)<(n:Int):=by omega
        have hray:=HRAY.out
        rw [if_neg hcn] at hray
        obtain ⟨⟨p0,p1,p2,p3,p4⟩,u0,u1,u2,u3,u4⟩:=row_cells5 HS16.out.res
        go_wp2_with fail
        have hlen:=fr_lens hray.fr (by omega)
        (try simp only [Exit.inBlock,Exit.then])
        refine bodyPost_ret (rsolve_res (row_set5 HS16.out.res) rfl rfl) rfl ?_
        first
         | refine ⟨_,⟨3,xs3,[],ys,[]⟩,rfl,⟨X3,none,Y,cx3,0,cy,?_,ratsAt_own (HX16.out.kept kept5 (HX16.out.not HS16.out.res (by decide))) HXL3.out hlx,ratsAt_nil _,ratsAt_own (HY16.out.kept kept5 (HY16.out.not HS16.out.res (by decide))) HYL.out hlen⟩,.inr (.inr ⟨rfl,rfl,rfl,HVALS.out.1,hray⟩),below5 (HBB.out.trans (HS16.out.bel.mono HBB.out.size)) (Nat.le_succ _)⟩
         | refine ⟨_,rfl,⟨3,xs3,[],ys,[]⟩,⟨X3,none,Y,cx3,0,cy,?_,ratsAt_own (HX16.out.kept kept5 (HX16.out.not HS16.out.res (by decide))) HXL3.out hlx,ratsAt_nil _,ratsAt_own (HY16.out.kept kept5 (HY16.out.not HS16.out.res (by decide))) HYL.out hlen⟩,.inr (.inr ⟨rfl,rfl,rfl,HVALS.out.1,hray⟩),below5 (HBB.out.trans (HS16.out.bel.mono HBB.out.size)) (Nat.le_succ _)⟩
        show _=ansV 3 (.slice X3 xs3.length cx3) (.slice none 0 0) (.slice Y ys.length cy) []
        rw [HYL.out,HXL3.out]
   ·have hzb:(tt == [48])=false:=by simpa using hz
    have HNZ:=Lib.hid (show T2 m rr≠0 from fun h=>hz (HZZ.out.1 h))
    clear hz HZZ
    have HDU:=Lib.hid (rxduals_any [49] (.inr rfl) HEND.out.ent (by have:=HPH.out.dD;omega) w1.heap.size w7 HS7.out HTL.out (by omega) (by omega))
    rw [HK5.out] at HDU
    go_wp2_with fail
    refine HDU.out.mono ?_
    rintro e w8 ⟨Y,cy,ys,rfl,hY,hDu,hb8⟩
    have hs8:=HSS.out.below hb8
    obtain ⟨⟨q0,q1,q2,q3,q4⟩,z0,z1,z2,z3,z4⟩:=row_cells5 hs8.ans
    have hs9:=hs8.put HNE.out HGB.out 2 (.slice Y m cy)
    have hY9:=hs8.own hY 2 (.slice Y m cy)
    clear yt y0 y1 c5 hs8
    go_upto_region 17 with fail
    generalize w8.setCell ⟨ga,2,none⟩ (.slice Y m cy)=w9 at *
    clear q0 q1 q2 q3 q4 z0 z1 z2 z3 z4
    obtain ⟨⟨q0,q1,q2,q3,q4⟩,z0,z1,z2,z3,z4⟩:=row_cells5 hs9.ans
    obtain ⟨⟨p0,p1,p2,p3,p4⟩,u0,u1,u2,u3,u4⟩:=row_cells5 hs9.res
    have c5:=hs9.tab.cell 5
    rw [HK5.out] at c5
    go_wp2_with fail
    have hDA:=HM6.out.2 tv ys HTE.out hDu (by rw [HRE.out];exact HNZ.out)
    have hlen:=fr_lens hDA.1.fr (by have:=HPH.out.dD;omega)
    (try simp only [Exit.inBlock,Exit.then])
    refine bodyPost_ret (rsolve_res (row_set5 hs9.res) rfl rfl) rfl ?_
    refine ⟨_,⟨2,[],ys,[],[]⟩,rfl,⟨none,Y,none,0,cy,0,?_,ratsAt_nil _,ratsAt_own (hY9.kept kept5 (hY9.not hs9.res (by decide))) hDu.1 hlen,ratsAt_nil _⟩,.inr (.inl ⟨rfl,rfl,rfl,rfl,hDA.1,hDA.2⟩),below5 (HBB.out.trans (hs9.bel.mono HBB.out.size)) (Nat.le_succ _)⟩
    show _=ansV 2 (.slice none 0 0) (.slice Y ys.length cy) (.slice none 0 0) []
    rw [hDu.1]
end Go.Proofs.YtmppmdmekomjbaaGreatDoor

/- The law ProoftextReads. (Printed by wip/mklr.py.) -/
import Derived.Test.YtljekdpgjaahjaaGreatDoorPtLk
namespace Go.Proofs.YtljekdpgjaahjaaGreatDoor
open Go.RowKit Num Txt Pf
set_option linter.unusedVariables false
attribute [local go_sem] B_size B_get B_toList B_mk B_extract B_append
set_option maxHeartbeats 8000000 in
set_option maxRecDepth 100000 in
theorem prooftextReads_walk (m:ProofM) (w:World) (h:ProofAt w m) (ht:Env w) (hr:ErrV w) :
  Calls Tryz.prog 5 #[proofA m] w fun e w'=>e=.returned (.bool true)∧Below w.heap.size w w':=by
 have he:EnvP w:=⟨ht,hr⟩
 clear ht hr
 obtain ⟨bw,o1⟩:=new_at w (proofB m)
 have HAW:=Lib.hid (fun w' (h:Below w.heap.size w w')=>awake39_any w' (he.below h))
 have HF:=Lib.hid (fun w' (hb:Below w.heap.size w w')=>few_any m w' (h.below hb))
 have HKE:=Lib.hid (fun (hf:FewP m.v) w' (hb:Below w.heap.size w w')=>kept_any m w' (h.below hb) hf)
 have HPR:=Lib.hid (fun (hf:FewP m.v) w' (hb:Below w.heap.size w w')=>reads_print m w' (h.below hb) hf (he.below hb))
 have HAT:=Lib.hid (fun w' (hb:Below w.heap.size w w')=>h.below hb)
 have HE:=Lib.hid (fun w' (hb:Below w.heap.size w w')=>he.below hb)
 have HB:=Lib.hid bw
 have HO:=Lib.hid o1
 clear h he bw o1
 obtain ⟨nn,PP,AA,caa,nss⟩:=m
 go_enter Tryz.func5,Tryz.ntmps5
 (try simp only [B_mk])
 go_upto_region 1 with fail
 generalize (w.alloc _)=wB at *
 obtain ⟨a0,a1,a2,a3⟩:=cells4 HO.out
 have HC1:=Lib.hid (HF.out wB HB.out)
 go_wp2_with fail
 refine HC1.out.mono ?_
 rintro e w2 ⟨⟨t1,rfl,hfew⟩,hb2⟩
 have HB2:=Lib.hid (below_lift HB.out hb2)
 have HO2:=Lib.hid (row_keep HO.out hb2)
 have HFW:=Lib.hid hfew
 clear a0 a1 a2 a3 hb2 HC1 hfew HB HO HF
 obtain ⟨a0,a1,a2,a3⟩:=cells4 HO2.out
 cases t1 with
 |false =>
  have HA:=Lib.hid (HAW.out w2 HB2.out)
  go_wp2_with fail
  refine HA.out.mono ?_
  rintro e w3 ⟨rfl,hb3⟩
  go_wp2_with fail
  go_ret
  exact ⟨rfl,below_lift HB2.out hb3⟩
 |true =>
  have HFP:=Lib.hid (HFW.out rfl)
  clear HFW
  cases nn with
  |true =>
   have HK:=Lib.hid (show KeptP ⟨true,PP,AA,caa,nss⟩ from .inl rfl)
   clear HKE
   have HB3:=HB2
   have HO3:=HO2
   have HC2:=Lib.hid (HPR.out HFP.out w2 HB2.out)
   go_wp2_with fail
   refine HC2.out.mono ?_
   rintro e w4 ⟨S,g,rfl,hpr,hb4⟩
   have HB4:=Lib.hid (below_lift HB3.out hb4)
   have HO4:=Lib.hid (row_keep HO3.out hb4)
   have HPQ:=Lib.hid hpr
   clear a0 a1 a2 a3 hb4 HC2 hpr
   by_cases hg:g=0
   ·have g1:(g != 0)=false:=by rw [hg];rfl
    have hpq:=HPQ.out
    rw [hg] at hpq
    have HPA:=Lib.hid (reads_parse ⟨true,PP,AA,caa,nss⟩ _ S (HAT.out _ HB4.out) HFP.out HK.out (HE.out _ HB4.out) hpq)
    clear hg hpq HPQ
    obtain ⟨a0,a1,a2,a3⟩:=cells4 HO4.out
    go_wp2_with fail
    refine HPA.out.mono ?_
    rintro e w5 ⟨m2,rfl,hmv,hma,hb5⟩
    obtain ⟨n6,p6⟩:=new_at w5 (proofB m2)
    have HB6:=Lib.hid (below_lift (below_lift HB4.out hb5) n6)
    have HO6:=Lib.hid (row_keep (row_keep HO4.out hb5) n6)
    have HP6:=Lib.hid p6
    have HM6:=Lib.hid (hma.below n6)
    have HMV:=Lib.hid hmv
    clear a0 a1 a2 a3 hb5 n6 p6 hma hmv HPA HB4 HO4
    go_upto_region 7 with fail
    generalize w5.alloc (proofB m2)=w6 at *
    generalize w5.heap.size=qb at *
    obtain ⟨a0,a1,a2,a3⟩:=cells4 HO6.out
    obtain ⟨d0,d1,d2,d3⟩:=cells4 HP6.out
    have HS1:=Lib.hid (pfSame_any ⟨true,PP,AA,caa,nss⟩ m2 w6 (HAT.out _ HB6.out) HM6.out)
    rw [eqv_true HMV.out.symm] at HS1
    go_wp2_with fail
    refine HS1.out.mono ?_
    rintro e w7 ⟨rfl,hb7⟩
    have HB7:=Lib.hid (below_lift HB6.out hb7)
    have HO7:=Lib.hid (row_keep HO6.out hb7)
    have HP7:=Lib.hid (row_keep HP6.out hb7)
    have HM7:=Lib.hid (HM6.out.below hb7)
    clear a0 a1 a2 a3 d0 d1 d2 d3 hb7 HS1 HB6 HO6 HP6 HM6
    obtain ⟨a0,a1,a2,a3⟩:=cells4 HO7.out
    obtain ⟨d0,d1,d2,d3⟩:=cells4 HP7.out
    have HS1:=Lib.hid (pfSame_any m2 ⟨true,PP,AA,caa,nss⟩ w7 HM7.out (HAT.out _ HB7.out))
    rw [eqv_true HMV.out] at HS1
    go_wp2_with fail
    refine HS1.out.mono ?_
    rintro e w8 ⟨rfl,hb8⟩
    have HB8:=Lib.hid (below_lift HB7.out hb8)
    have HA:=Lib.hid (HAW.out w8 HB8.out)
    go_wp2_with fail
    refine HA.out.mono ?_
    rintro e w9 ⟨rfl,hb9⟩
    go_wp2_with fail
    go_ret
    exact ⟨rfl,below_lift HB8.out hb9⟩
   ·have g1:(g != 0)=true:=by simpa using hg
    have hS:S=[]:=by
     have h1:=print_no (p:=ProofM.v ⟨true,PP,AA,caa,nss⟩) (by rw [HPQ.out];exact hg)
     rw [HPQ.out] at h1;exact h1
    subst hS
    have HA:=Lib.hid (HAW.out w4 HB4.out)
    clear hg
    go_wp2_with fail
    refine HA.out.mono ?_
    rintro e w5 ⟨rfl,hb5⟩
    go_wp2_with fail
    go_ret
    exact ⟨rfl,below_lift HB4.out hb5⟩
  |false =>
   have HC2:=Lib.hid (HKE.out HFP.out w2 HB2.out)
   go_wp2_with fail
   refine HC2.out.mono ?_
   rintro e w3 ⟨rfl,hb3⟩
   have HB3:=Lib.hid (below_lift HB2.out hb3)
   have HO3:=Lib.hid (row_keep HO2.out hb3)
   clear a0 a1 a2 a3 hb3 HC2 HB2 HO2 HKE
   obtain ⟨a0,a1,a2,a3⟩:=cells4 HO3.out
   have HKT:=Lib.hid (fun h:keptB PP.v=true=>keptB_true h)
   generalize keptB PP.v=kb at *
   cases kb with
   |false =>
    have HA:=Lib.hid (HAW.out w3 HB3.out)
    go_wp2_with fail
    refine HA.out.mono ?_
    rintro e w4 ⟨rfl,hb4⟩
    go_wp2_with fail
    go_ret
    exact ⟨rfl,below_lift HB3.out hb4⟩
   |true =>
    have HK:=Lib.hid (show KeptP ⟨false,PP,AA,caa,nss⟩ from .inr ⟨rfl,HKT.out (by first | rfl | trivial)⟩)
    clear HKT
    have HC2:=Lib.hid (HPR.out HFP.out w3 HB3.out)
    go_wp2_with fail
    refine HC2.out.mono ?_
    rintro e w4 ⟨S,g,rfl,hpr,hb4⟩
    have HB4:=Lib.hid (below_lift HB3.out hb4)
    have HO4:=Lib.hid (row_keep HO3.out hb4)
    have HPQ:=Lib.hid hpr
    clear a0 a1 a2 a3 hb4 HC2 hpr
    by_cases hg:g=0
    ·have g1:(g != 0)=false:=by rw [hg];rfl
     have hpq:=HPQ.out
     rw [hg] at hpq
     have HPA:=Lib.hid (reads_parse ⟨false,PP,AA,caa,nss⟩ _ S (HAT.out _ HB4.out) HFP.out HK.out (HE.out _ HB4.out) hpq)
     clear hg hpq HPQ
     obtain ⟨a0,a1,a2,a3⟩:=cells4 HO4.out
     go_wp2_with fail
     refine HPA.out.mono ?_
     rintro e w5 ⟨m2,rfl,hmv,hma,hb5⟩
     obtain ⟨n6,p6⟩:=new_at w5 (proofB m2)
     have HB6:=Lib.hid (below_lift (below_lift HB4.out hb5) n6)
     have HO6:=Lib.hid (row_keep (row_keep HO4.out hb5) n6)
     have HP6:=Lib.hid p6
     have HM6:=Lib.hid (hma.below n6)
     have HMV:=Lib.hid hmv
     clear a0 a1 a2 a3 hb5 n6 p6 hma hmv HPA HB4 HO4
     go_upto_region 7 with fail
     generalize w5.alloc (proofB m2)=w6 at *
     generalize w5.heap.size=qb at *
     obtain ⟨a0,a1,a2,a3⟩:=cells4 HO6.out
     obtain ⟨d0,d1,d2,d3⟩:=cells4 HP6.out
     have HS1:=Lib.hid (pfSame_any ⟨false,PP,AA,caa,nss⟩ m2 w6 (HAT.out _ HB6.out) HM6.out)
     rw [eqv_true HMV.out.symm] at HS1
     go_wp2_with fail
     refine HS1.out.mono ?_
     rintro e w7 ⟨rfl,hb7⟩
     have HB7:=Lib.hid (below_lift HB6.out hb7)
     have HO7:=Lib.hid (row_keep HO6.out hb7)
     have HP7:=Lib.hid (row_keep HP6.out hb7)
     have HM7:=Lib.hid (HM6.out.below hb7)
     clear a0 a1 a2 a3 d0 d1 d2 d3 hb7 HS1 HB6 HO6 HP6 HM6
     obtain ⟨a0,a1,a2,a3⟩:=cells4 HO7.out
     obtain ⟨d0,d1,d2,d3⟩:=cells4 HP7.out
     have HS1:=Lib.hid (pfSame_any m2 ⟨false,PP,AA,caa,nss⟩ w7 HM7.out (HAT.out _ HB7.out))
     rw [eqv_true HMV.out] at HS1
     go_wp2_with fail
     refine HS1.out.mono ?_
     rintro e w8 ⟨rfl,hb8⟩
     have HB8:=Lib.hid (below_lift HB7.out hb8)
     have HA:=Lib.hid (HAW.out w8 HB8.out)
     go_wp2_with fail
     refine HA.out.mono ?_
     rintro e w9 ⟨rfl,hb9⟩
     go_wp2_with fail
     go_ret
     exact ⟨rfl,below_lift HB8.out hb9⟩
    ·have g1:(g != 0)=true:=by simpa using hg
     have hS:S=[]:=by
      have h1:=print_no (p:=ProofM.v ⟨false,PP,AA,caa,nss⟩) (by rw [HPQ.out];exact hg)
      rw [HPQ.out] at h1;exact h1
     subst hS
     have HA:=Lib.hid (HAW.out w4 HB4.out)
     clear hg
     go_wp2_with fail
     refine HA.out.mono ?_
     rintro e w5 ⟨rfl,hb5⟩
     go_wp2_with fail
     go_ret
     exact ⟨rfl,below_lift HB4.out hb5⟩
end Go.Proofs.YtljekdpgjaahjaaGreatDoor

/- The law ProoftextPrints. (Printed by wip/mklr.py.) -/
import Derived.Test.YtljekdpgjaahjaaGreatDoorPtLk
import Derived.Test.YtljekdpgjaahjaaGreatDoorPtT3
namespace Go.Proofs.YtljekdpgjaahjaaGreatDoor
open Go.RowKit Num Txt Pf
set_option linter.unusedVariables false
attribute [local go_sem] B_size B_get B_toList B_mk B_extract B_append
theorem prints_print (m:ProofM) (w:World) (h:ProofAt w m) (hf:FewP m.v) :
  Calls Tryz.prog 12 #[proofA m] w fun e w'=>∃ (S:Str) (g:Int),e=.returned (.tuple #[.string (B S),.int .i64 g])∧printR m.v=(S,g)∧Below w.heap.size w w':=by
 obtain ⟨f1,f2,f3,f4⟩:=few_plan h.plan hf.plan
 have h1:=rprintp_any m w h (by omega) (by omega) f3 (by omega) (fun n hn=>by
  have:=hf.node n.n (List.mem_map_of_mem hn)
  exact ⟨by omega,by omega,fun d hd=>by have:=this.2.2 d hd;omega⟩)
 refine h1.mono ?_
 rintro e w' ⟨rfl,hb⟩
 exact ⟨_,_,rfl,rfl,hb⟩
set_option maxHeartbeats 8000000 in
set_option maxRecDepth 100000 in
theorem prooftextPrints_walk (m:ProofM) (w:World) (h:ProofAt w m) (ht:Env w) (hr:ErrV w) :
  Calls Tryz.prog 3 #[proofA m] w fun e w'=>e=.returned (.bool true)∧Below w.heap.size w w':=by
 have he:EnvP w:=⟨ht,hr⟩
 clear ht hr
 obtain ⟨bw,o1⟩:=new_at w (proofB m)
 have HAW:=Lib.hid (fun w' (h:Below w.heap.size w w')=>awake39_any w' (he.below h))
 have HF:=Lib.hid (fun w' (hb:Below w.heap.size w w')=>few_any m w' (h.below hb))
 have HKE:=Lib.hid (fun (hf:FewP m.v) w' (hb:Below w.heap.size w w')=>kept_any m w' (h.below hb) hf)
 have HPR:=Lib.hid (fun (hf:FewP m.v) w' (hb:Below w.heap.size w w')=>reads_print m w' (h.below hb) hf (he.below hb))
 have HAT:=Lib.hid (fun w' (hb:Below w.heap.size w w')=>h.below hb)
 have HE:=Lib.hid (fun w' (hb:Below w.heap.size w w')=>he.below hb)
 have HRP:=Lib.hid (fun (hf:FewP m.v) w' (hb:Below w.heap.size w w')=>prints_print m w' (h.below hb) hf)
 have HB:=Lib.hid bw
 have HO:=Lib.hid o1
 clear h he bw o1
 obtain ⟨nn,PP,AA,caa,nss⟩:=m
 go_enter Tryz.func3,Tryz.ntmps3
 (try simp only [B_mk])
 go_upto_region 1 with fail
 generalize (w.alloc _)=wB at *
 obtain ⟨a0,a1,a2,a3⟩:=cells4 HO.out
 have HC1:=Lib.hid (HF.out wB HB.out)
 go_wp2_with fail
 refine HC1.out.mono ?_
 rintro e w2 ⟨⟨t1,rfl,hfew⟩,hb2⟩
 have HB2:=Lib.hid (below_lift HB.out hb2)
 have HO2:=Lib.hid (row_keep HO.out hb2)
 have HFW:=Lib.hid hfew
 clear a0 a1 a2 a3 hb2 HC1 hfew HB HO HF
 obtain ⟨a0,a1,a2,a3⟩:=cells4 HO2.out
 cases t1 with
 |false =>
  have HA:=Lib.hid (HAW.out w2 HB2.out)
  go_wp2_with fail
  refine HA.out.mono ?_
  rintro e w3 ⟨rfl,hb3⟩
  go_wp2_with fail
  go_ret
  exact ⟨rfl,below_lift HB2.out hb3⟩
 |true =>
  have HFP:=Lib.hid (HFW.out rfl)
  clear HFW
  cases nn with
  |true =>
   have HK:=Lib.hid (show KeptP ⟨true,PP,AA,caa,nss⟩ from .inl rfl)
   clear HKE
   have HB3:=HB2
   have HO3:=HO2
   have HC2:=Lib.hid (HPR.out HFP.out w2 HB2.out)
   go_wp2_with fail
   refine HC2.out.mono ?_
   rintro e w4 ⟨S,g,rfl,hpr,hb4⟩
   have HB4:=Lib.hid (below_lift HB3.out hb4)
   have HO4:=Lib.hid (row_keep HO3.out hb4)
   have HPQ:=Lib.hid hpr
   clear a0 a1 a2 a3 hb4 HC2 hpr
   obtain ⟨a0,a1,a2,a3⟩:=cells4 HO4.out
   have HC3:=Lib.hid (HRP.out HFP.out w4 HB4.out)
   go_wp2_with fail
   refine HC3.out.mono ?_
   rintro e w5 ⟨S2,g2,rfl,hpr2,hb5⟩
   have hSS:S2=S∧g2=g:=by
    rw [HPQ.out] at hpr2
    injection hpr2 with h1 h2
    exact ⟨h1.symm,h2.symm⟩
   obtain ⟨rfl,rfl⟩:=hSS
   have HB5:=Lib.hid (below_lift HB4.out hb5)
   have q1:(g2 == g2)=true:=by simp
   have HA:=Lib.hid (HAW.out w5 HB5.out)
   clear a0 a1 a2 a3 hb5 HC3 hpr2
   go_wp2_with fail
   refine HA.out.mono ?_
   rintro e w6 ⟨rfl,hb6⟩
   go_wp2_with fail
   go_ret
   exact ⟨rfl,below_lift HB5.out hb6⟩
  |false =>
   have HC2:=Lib.hid (HKE.out HFP.out w2 HB2.out)
   go_wp2_with fail
   refine HC2.out.mono ?_
   rintro e w3 ⟨rfl,hb3⟩
   have HB3:=Lib.hid (below_lift HB2.out hb3)
   have HO3:=Lib.hid (row_keep HO2.out hb3)
   clear a0 a1 a2 a3 hb3 HC2 HB2 HO2 HKE
   obtain ⟨a0,a1,a2,a3⟩:=cells4 HO3.out
   have HKT:=Lib.hid (fun h:keptB PP.v=true=>keptB_true h)
   generalize keptB PP.v=kb at *
   cases kb with
   |false =>
    have HA:=Lib.hid (HAW.out w3 HB3.out)
    go_wp2_with fail
    refine HA.out.mono ?_
    rintro e w4 ⟨rfl,hb4⟩
    go_wp2_with fail
    go_ret
    exact ⟨rfl,below_lift HB3.out hb4⟩
   |true =>
    have HK:=Lib.hid (show KeptP ⟨false,PP,AA,caa,nss⟩ from .inr ⟨rfl,HKT.out (by first | rfl | trivial)⟩)
    clear HKT
    have HC2:=Lib.hid (HPR.out HFP.out w3 HB3.out)
    go_wp2_with fail
    refine HC2.out.mono ?_
    rintro e w4 ⟨S,g,rfl,hpr,hb4⟩
    have HB4:=Lib.hid (below_lift HB3.out hb4)
    have HO4:=Lib.hid (row_keep HO3.out hb4)
    have HPQ:=Lib.hid hpr
    clear a0 a1 a2 a3 hb4 HC2 hpr
    obtain ⟨a0,a1,a2,a3⟩:=cells4 HO4.out
    have HC3:=Lib.hid (HRP.out HFP.out w4 HB4.out)
    go_wp2_with fail
    refine HC3.out.mono ?_
    rintro e w5 ⟨S2,g2,rfl,hpr2,hb5⟩
    have hSS:S2=S∧g2=g:=by
     rw [HPQ.out] at hpr2
     injection hpr2 with h1 h2
     exact ⟨h1.symm,h2.symm⟩
    obtain ⟨rfl,rfl⟩:=hSS
    have HB5:=Lib.hid (below_lift HB4.out hb5)
    have q1:(g2 == g2)=true:=by simp
    have HA:=Lib.hid (HAW.out w5 HB5.out)
    clear a0 a1 a2 a3 hb5 HC3 hpr2
    go_wp2_with fail
    refine HA.out.mono ?_
    rintro e w6 ⟨rfl,hb6⟩
    go_wp2_with fail
    go_ret
    exact ⟨rfl,below_lift HB5.out hb6⟩
end Go.Proofs.YtljekdpgjaahjaaGreatDoor

/- lorrylaw39.kept. -/
import Derived.Test.YtljekdpgjaahjaaGreatDoorPtV3
import Derived.Test.YtljekdpgjaahjaaGreatDoorPtV5
import Derived.Test.YtljekdpgjaahjaaGreatDoorG57
namespace Go.Proofs.YtljekdpgjaahjaaGreatDoor
open Go.RowKit Num Txt Pf
set_option linter.unusedVariables false
attribute [local go_sem] B_size B_get B_toList B_mk B_extract B_append
theorem few_plan {w:World} {m:PlanM} (h:PlanAt w m) (hf:PlanFew m.v):m.rs.length≤6∧m.us.length≤20∧(∀ r ∈ m.rs,r.r.rests.length≤6000∧r.r.vis.length≤6000)∧(planS m.v).length≤5000:=by
 have h1:=hf.rl
 rw [show m.v.rous=m.rs.map (·.r) from rfl,List.length_map] at h1
 have h3:∀ r ∈ m.rs,r.r.rests.length≤21∧r.r.vis.length≤20:=fun r hr=>hf.ro r.r (List.mem_map_of_mem hr)
 refine ⟨h1,hf.ul,fun r hr=>by have:=h3 r hr;omega,plan_len ⟨by have:=hf.rl;omega,by have:=hf.ul;omega,fun r hr=>?_,h.unsF⟩ hf⟩
 obtain ⟨x,hx,rfl⟩:=List.mem_map.1 hr
 have:=h3 x hx
 have ha:=h.each x hx
 exact ⟨ha.kind,ha.start,by omega,by omega,ha.visF⟩
noncomputable def keptB (p:PlanV):Bool:=(planR (planS p)).2.2 == 0 && eqv p (planR (planS p)).1
theorem keptB_true {p:PlanV} (h:keptB p=true):(planR (planS p)).2.2=0∧(planR (planS p)).1=p:=by
 unfold keptB at h
 rw [Bool.and_eq_true,beq_iff_eq] at h
 exact ⟨h.1,(eqv_iff.1 h.2).symm⟩
set_option maxHeartbeats 4000000 in
set_option maxRecDepth 100000 in
theorem kept_any (m:ProofM) (w:World) (h:ProofAt w m) (hf:FewP m.v) :
  Calls Tryz.prog 9 #[proofA m] w fun e w'=>e=.returned (.bool (keptB m.P.v))∧Below w.heap.size w w':=by
 obtain ⟨bw,o1⟩:=new_at w (proofB m)
 obtain ⟨hf1,hf2,hfr,hpl⟩:=few_plan h.plan hf.plan
 have HPR:=Lib.hid (fun w' (hb:Below w.heap.size w w')=>rplprint_any m.P w' (h.plan.below hb) (by omega) (by omega) hfr)
 have HPA:=Lib.hid (fun w'=>rplparse_any (planS m.P.v) w' (by omega))
 have HPL:=Lib.hid (fun w' (hb:Below w.heap.size w w')=>h.plan.below hb)
 have HB:=Lib.hid bw
 have HO:=Lib.hid o1
 have hK:keptB m.P.v=((planR (planS m.P.v)).2.2 == 0 && eqv m.P.v (planR (planS m.P.v)).1):=rfl
 have HK:=Lib.hid hK
 generalize keptB m.P.v=kb at *
 have HSL:=Lib.hid hpl
 clear h hf hpl hfr hf1 hf2 bw o1 hK
 generalize planS m.P.v=S at *
 generalize planR S=R at *
 go_enter Tryz.func9,Tryz.ntmps9
 go_upto_region 1 with fail
 generalize (w.alloc _)=wB at *
 obtain ⟨a0,a1,a2,a3⟩:=cells4 HO.out
 have HC1:=Lib.hid (HPR.out wB HB.out)
 go_wp2_with fail
 refine HC1.out.mono ?_
 rintro e w2 ⟨rfl,hb2⟩
 have HB2:=Lib.hid (below_lift HB.out hb2)
 have HO2:=Lib.hid (row_keep HO.out hb2)
 have HC2:=Lib.hid (HPA.out w2)
 clear a0 a1 a2 a3 hb2 HC1
 go_wp2_with fail
 refine HC2.out.mono ?_
 rintro e w3 ⟨q,rfl,hqr,hqo,hb3⟩
 obtain ⟨n4,p4⟩:=new_at w3 (planB q)
 have HB4:=Lib.hid (below_lift (below_lift HB2.out hb3) n4)
 have HO4:=Lib.hid (row_keep (row_keep HO2.out hb3) n4)
 have HQ4:=Lib.hid (hqo.at_.below n4)
 have HP4:=Lib.hid p4
 have HQR:=Lib.hid hqr
 clear hb3 n4 p4 hqo hqr HC2 HB2 HO2 HPA HPR HB HO
 go_upto_region 2 with fail
 generalize w3.alloc (planB q)=w4 at *
 generalize w3.heap.size=qb at *
 by_cases hz:R.2.2=0
 ·have e1:(R.2.2 == 0)=true:=by rw [hz];rfl
  have HS:=Lib.hid (rSame_any m.P q w4 (HPL.out w4 HB4.out) HQ4.out)
  rw [HQR.out] at HS
  have HKK:=Lib.hid (show kb=eqv m.P.v R.1 by rw [HK.out,e1];rfl)
  obtain ⟨a0,a1,a2,a3⟩:=cells4 HO4.out
  obtain ⟨b0,b1⟩:=cells2 HP4.out
  clear hz
  go_wp2_with fail
  refine HS.out.mono ?_
  rintro e w5 ⟨rfl,hb5⟩
  go_wp2_with fail
  go_ret
  exact ⟨by rw [HKK.out];rfl,below_lift HB4.out hb5⟩
 ·have e1:(R.2.2 == 0)=false:=by simpa using hz
  have HKK:=Lib.hid (show kb=false by rw [HK.out,e1];rfl)
  clear hz
  go_wp2_with fail
  go_ret
  exact ⟨by rw [HKK.out];rfl,HB4.out⟩
end Go.Proofs.YtljekdpgjaahjaaGreatDoor

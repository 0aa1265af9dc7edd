/- The law ProoftextSame. -/
import Derived.Test.YtljekdpgjaahjaaGreatDoorPtAw
import Derived.Test.YtljekdpgjaahjaaGreatDoorG57
import Derived.Test.YtljekdpgjaahjaaGreatDoorG55
import Derived.Deep.RegionHeld3
namespace Go.Proofs.YtljekdpgjaahjaaGreatDoor
open Go.RowKit Num Txt Pf
set_option linter.unusedVariables false
attribute [local go_sem] B_size B_get B_toList B_mk B_extract B_append
set_option maxHeartbeats 8000000 in
set_option maxRecDepth 100000 in
theorem prooftextSame_walk (m1 m2:ProofM) (w:World) (h1:ProofAt w m1) (h2:ProofAt w m2) (ht:Env w) (hr:ErrV w) :
  Calls Tryz.prog 6 #[proofA m1,proofA m2] w fun e w'=>e=.returned (.bool true)∧Below w.heap.size w w':=by
 have he:EnvP w:=⟨ht,hr⟩
 clear ht hr
 obtain ⟨bw,o1,o2⟩:=two_new w (proofB m1) (proofB m2)
 have HE:=Lib.hid (fun w' (h:Below w.heap.size w w')=>he.below h)
 have HF1:=Lib.hid (fun w' (h:Below w.heap.size w w')=>few_any m1 w' (h1.below h))
 have HF2:=Lib.hid (fun w' (h:Below w.heap.size w w')=>few_any m2 w' (h2.below h))
 have HK1:=Lib.hid (fun w' (h:Below w.heap.size w w')=>pfSame_any m1 m2 w' (h1.below h) (h2.below h))
 have HK2:=Lib.hid (fun w' (h:Below w.heap.size w w')=>rpSame_any m1 m2 w' (h1.below h) (h2.below h))
 have HK3:=Lib.hid (fun w' (h:Below w.heap.size w w')=>pfSame_any m2 m1 w' (h2.below h) (h1.below h))
 have HK4:=Lib.hid (fun w' (h:Below w.heap.size w w')=>rpSame_any m2 m1 w' (h2.below h) (h1.below h))
 have HK5:=Lib.hid (fun w' (h:Below w.heap.size w w')=>pfSame_any m1 m1 w' (h1.below h) (h1.below h))
 have HK6:=Lib.hid (fun w' (h:Below w.heap.size w w')=>rpSame_any m1 m1 w' (h1.below h) (h1.below h))
 have HAW:=Lib.hid (fun w' (h:Below w.heap.size w w')=>awake39_any w' (he.below h))
 have HB:=Lib.hid bw
 have HO1:=Lib.hid o1
 have HO2:=Lib.hid o2
 generalize eqv m1.v m2.v=r1 at *
 generalize eqv m2.v m1.v=r2 at *
 generalize eqv m1.v m1.v=r3 at *
 have q1:(r1 == r1)=true:=by simp
 have q2:(r2 == r2)=true:=by simp
 have q3:(r3 == r3)=true:=by simp
 clear h1 h2 he bw o1 o2
 go_enter Tryz.func6,Tryz.ntmps6
 go_upto_region 1 with fail
 generalize ((w.alloc _).alloc _)=wB at *
 obtain ⟨a0,a1,a2,a3⟩:=cells4 HO1.out
 obtain ⟨b0,b1,b2,b3⟩:=cells4 HO2.out
 have HC1:=Lib.hid (HF1.out wB HB.out)
 go_wp2_with fail
 refine HC1.out.mono ?_
 rintro e w2 ⟨⟨t1,rfl,_⟩,hb2⟩
 have HB2:=Lib.hid (below_lift HB.out hb2)
 have HO1:=Lib.hid (row_keep HO1.out hb2)
 have HO2:=Lib.hid (row_keep HO2.out hb2)
 clear a0 a1 a2 a3 b0 b1 b2 b3 hb2 HC1 HB HF1
 obtain ⟨a0,a1,a2,a3⟩:=cells4 HO1.out
 obtain ⟨b0,b1,b2,b3⟩:=cells4 HO2.out
 cases t1 with
 |false =>
  have HA:=Lib.hid (HAW.out w2 HB2.out)
  go_wp2_with fail
  refine HA.out.mono ?_
  rintro e w3 ⟨rfl,hb3⟩
  go_wp2_with fail
  go_ret
  exact ⟨rfl,below_lift HB2.out hb3⟩
 |true =>
  have HC2:=Lib.hid (HF2.out w2 HB2.out)
  go_wp2_with fail
  refine HC2.out.mono ?_
  rintro e w3 ⟨⟨t2,rfl,_⟩,hb3⟩
  have HB3:=Lib.hid (below_lift HB2.out hb3)
  have HO1:=Lib.hid (row_keep HO1.out hb3)
  have HO2:=Lib.hid (row_keep HO2.out hb3)
  clear a0 a1 a2 a3 b0 b1 b2 b3 hb3 HC2 HB2 HF2
  obtain ⟨a0,a1,a2,a3⟩:=cells4 HO1.out
  obtain ⟨b0,b1,b2,b3⟩:=cells4 HO2.out
  cases t2 with
  |false =>
   have HA:=Lib.hid (HAW.out w3 HB3.out)
   go_wp2_with fail
   refine HA.out.mono ?_
   rintro e w4 ⟨rfl,hb4⟩
   go_wp2_with fail
   go_ret
   exact ⟨rfl,below_lift HB3.out hb4⟩
  |true =>
   go_upto_region 3 with fail
   have HALL:=Lib.hid (show ∀ w',Below w3.heap.size w3 w'→Below w3.heap.size w3 w'∧w'.cell? ⟨w.heap.size,0,none⟩=some (.bool m1.none)∧w'.cell? ⟨w.heap.size,1,none⟩=some (.slice m1.P.A m1.P.rs.length m1.P.ca)∧w'.cell? ⟨w.heap.size,2,none⟩=some (.slice m1.P.C m1.P.us.length m1.P.cc)∧w'.cell? ⟨w.heap.size,3,none⟩=some (.slice m1.A m1.ns.length m1.ca)∧w'.cell? ⟨w.heap.size+1,0,none⟩=some (.bool m2.none)∧w'.cell? ⟨w.heap.size+1,1,none⟩=some (.slice m2.P.A m2.P.rs.length m2.P.ca)∧w'.cell? ⟨w.heap.size+1,2,none⟩=some (.slice m2.P.C m2.P.us.length m2.P.cc)∧w'.cell? ⟨w.heap.size+1,3,none⟩=some (.slice m2.A m2.ns.length m2.ca) from fun w' h=>by
    obtain ⟨d0,d1,d2,d3⟩:=cells4 (row_keep HO1.out h)
    obtain ⟨f0,f1,f2,f3⟩:=cells4 (row_keep HO2.out h)
    exact ⟨h,d0,d1,d2,d3,f0,f1,f2,f3⟩)
   have hS0:=HALL.out w3.drew (Below.refl _ _).drew
   have HKP:=Lib.hid (fun (wo wn:World) (h:Below w3.heap.size w3 wo∧wo.cell? ⟨w.heap.size,0,none⟩=some (.bool m1.none)∧wo.cell? ⟨w.heap.size,1,none⟩=some (.slice m1.P.A m1.P.rs.length m1.P.ca)∧wo.cell? ⟨w.heap.size,2,none⟩=some (.slice m1.P.C m1.P.us.length m1.P.cc)∧wo.cell? ⟨w.heap.size,3,none⟩=some (.slice m1.A m1.ns.length m1.ca)∧wo.cell? ⟨w.heap.size+1,0,none⟩=some (.bool m2.none)∧wo.cell? ⟨w.heap.size+1,1,none⟩=some (.slice m2.P.A m2.P.rs.length m2.P.ca)∧wo.cell? ⟨w.heap.size+1,2,none⟩=some (.slice m2.P.C m2.P.us.length m2.P.cc)∧wo.cell? ⟨w.heap.size+1,3,none⟩=some (.slice m2.A m2.ns.length m2.ca)) (hbz:Below wo.heap.size wo wn)=>HALL.out wn (below_lift h.1 hbz))
   have G1:=Lib.hid (fun (w':World) (h:Below w3.heap.size w3 w'∧w'.cell? ⟨w.heap.size,0,none⟩=some (.bool m1.none)∧w'.cell? ⟨w.heap.size,1,none⟩=some (.slice m1.P.A m1.P.rs.length m1.P.ca)∧w'.cell? ⟨w.heap.size,2,none⟩=some (.slice m1.P.C m1.P.us.length m1.P.cc)∧w'.cell? ⟨w.heap.size,3,none⟩=some (.slice m1.A m1.ns.length m1.ca)∧w'.cell? ⟨w.heap.size+1,0,none⟩=some (.bool m2.none)∧w'.cell? ⟨w.heap.size+1,1,none⟩=some (.slice m2.P.A m2.P.rs.length m2.P.ca)∧w'.cell? ⟨w.heap.size+1,2,none⟩=some (.slice m2.P.C m2.P.us.length m2.P.cc)∧w'.cell? ⟨w.heap.size+1,3,none⟩=some (.slice m2.A m2.ns.length m2.ca))=>HK1.out w' (below_lift HB3.out h.1))
   have G2:=Lib.hid (fun (w':World) (h:Below w3.heap.size w3 w'∧w'.cell? ⟨w.heap.size,0,none⟩=some (.bool m1.none)∧w'.cell? ⟨w.heap.size,1,none⟩=some (.slice m1.P.A m1.P.rs.length m1.P.ca)∧w'.cell? ⟨w.heap.size,2,none⟩=some (.slice m1.P.C m1.P.us.length m1.P.cc)∧w'.cell? ⟨w.heap.size,3,none⟩=some (.slice m1.A m1.ns.length m1.ca)∧w'.cell? ⟨w.heap.size+1,0,none⟩=some (.bool m2.none)∧w'.cell? ⟨w.heap.size+1,1,none⟩=some (.slice m2.P.A m2.P.rs.length m2.P.ca)∧w'.cell? ⟨w.heap.size+1,2,none⟩=some (.slice m2.P.C m2.P.us.length m2.P.cc)∧w'.cell? ⟨w.heap.size+1,3,none⟩=some (.slice m2.A m2.ns.length m2.ca))=>HK2.out w' (below_lift HB3.out h.1))
   have G3:=Lib.hid (fun (w':World) (h:Below w3.heap.size w3 w'∧w'.cell? ⟨w.heap.size,0,none⟩=some (.bool m1.none)∧w'.cell? ⟨w.heap.size,1,none⟩=some (.slice m1.P.A m1.P.rs.length m1.P.ca)∧w'.cell? ⟨w.heap.size,2,none⟩=some (.slice m1.P.C m1.P.us.length m1.P.cc)∧w'.cell? ⟨w.heap.size,3,none⟩=some (.slice m1.A m1.ns.length m1.ca)∧w'.cell? ⟨w.heap.size+1,0,none⟩=some (.bool m2.none)∧w'.cell? ⟨w.heap.size+1,1,none⟩=some (.slice m2.P.A m2.P.rs.length m2.P.ca)∧w'.cell? ⟨w.heap.size+1,2,none⟩=some (.slice m2.P.C m2.P.us.length m2.P.cc)∧w'.cell? ⟨w.heap.size+1,3,none⟩=some (.slice m2.A m2.ns.length m2.ca))=>HK3.out w' (below_lift HB3.out h.1))
   have G4:=Lib.hid (fun (w':World) (h:Below w3.heap.size w3 w'∧w'.cell? ⟨w.heap.size,0,none⟩=some (.bool m1.none)∧w'.cell? ⟨w.heap.size,1,none⟩=some (.slice m1.P.A m1.P.rs.length m1.P.ca)∧w'.cell? ⟨w.heap.size,2,none⟩=some (.slice m1.P.C m1.P.us.length m1.P.cc)∧w'.cell? ⟨w.heap.size,3,none⟩=some (.slice m1.A m1.ns.length m1.ca)∧w'.cell? ⟨w.heap.size+1,0,none⟩=some (.bool m2.none)∧w'.cell? ⟨w.heap.size+1,1,none⟩=some (.slice m2.P.A m2.P.rs.length m2.P.ca)∧w'.cell? ⟨w.heap.size+1,2,none⟩=some (.slice m2.P.C m2.P.us.length m2.P.cc)∧w'.cell? ⟨w.heap.size+1,3,none⟩=some (.slice m2.A m2.ns.length m2.ca))=>HK4.out w' (below_lift HB3.out h.1))
   have G5:=Lib.hid (fun (w':World) (h:Below w3.heap.size w3 w'∧w'.cell? ⟨w.heap.size,0,none⟩=some (.bool m1.none)∧w'.cell? ⟨w.heap.size,1,none⟩=some (.slice m1.P.A m1.P.rs.length m1.P.ca)∧w'.cell? ⟨w.heap.size,2,none⟩=some (.slice m1.P.C m1.P.us.length m1.P.cc)∧w'.cell? ⟨w.heap.size,3,none⟩=some (.slice m1.A m1.ns.length m1.ca)∧w'.cell? ⟨w.heap.size+1,0,none⟩=some (.bool m2.none)∧w'.cell? ⟨w.heap.size+1,1,none⟩=some (.slice m2.P.A m2.P.rs.length m2.P.ca)∧w'.cell? ⟨w.heap.size+1,2,none⟩=some (.slice m2.P.C m2.P.us.length m2.P.cc)∧w'.cell? ⟨w.heap.size+1,3,none⟩=some (.slice m2.A m2.ns.length m2.ca))=>HK5.out w' (below_lift HB3.out h.1))
   have G6:=Lib.hid (fun (w':World) (h:Below w3.heap.size w3 w'∧w'.cell? ⟨w.heap.size,0,none⟩=some (.bool m1.none)∧w'.cell? ⟨w.heap.size,1,none⟩=some (.slice m1.P.A m1.P.rs.length m1.P.ca)∧w'.cell? ⟨w.heap.size,2,none⟩=some (.slice m1.P.C m1.P.us.length m1.P.cc)∧w'.cell? ⟨w.heap.size,3,none⟩=some (.slice m1.A m1.ns.length m1.ca)∧w'.cell? ⟨w.heap.size+1,0,none⟩=some (.bool m2.none)∧w'.cell? ⟨w.heap.size+1,1,none⟩=some (.slice m2.P.A m2.P.rs.length m2.P.ca)∧w'.cell? ⟨w.heap.size+1,2,none⟩=some (.slice m2.P.C m2.P.us.length m2.P.cc)∧w'.cell? ⟨w.heap.size+1,3,none⟩=some (.slice m2.A m2.ns.length m2.ca))=>HK6.out w' (below_lift HB3.out h.1))
   have G7:=Lib.hid (fun (w':World) (h:Below w3.heap.size w3 w'∧w'.cell? ⟨w.heap.size,0,none⟩=some (.bool m1.none)∧w'.cell? ⟨w.heap.size,1,none⟩=some (.slice m1.P.A m1.P.rs.length m1.P.ca)∧w'.cell? ⟨w.heap.size,2,none⟩=some (.slice m1.P.C m1.P.us.length m1.P.cc)∧w'.cell? ⟨w.heap.size,3,none⟩=some (.slice m1.A m1.ns.length m1.ca)∧w'.cell? ⟨w.heap.size+1,0,none⟩=some (.bool m2.none)∧w'.cell? ⟨w.heap.size+1,1,none⟩=some (.slice m2.P.A m2.P.rs.length m2.P.ca)∧w'.cell? ⟨w.heap.size+1,2,none⟩=some (.slice m2.P.C m2.P.us.length m2.P.cc)∧w'.cell? ⟨w.heap.size+1,3,none⟩=some (.slice m2.A m2.ns.length m2.ca))=>HAW.out w' (below_lift HB3.out h.1))
   clear HK1 HK2 HK3 HK4 HK5 HK6 HAW HE a0 a1 a2 a3 b0 b1 b2 b3
   go_region_held3 (fun w'=>Below w3.heap.size w3 w'∧w'.cell? ⟨w.heap.size,0,none⟩=some (.bool m1.none)∧w'.cell? ⟨w.heap.size,1,none⟩=some (.slice m1.P.A m1.P.rs.length m1.P.ca)∧w'.cell? ⟨w.heap.size,2,none⟩=some (.slice m1.P.C m1.P.us.length m1.P.cc)∧w'.cell? ⟨w.heap.size,3,none⟩=some (.slice m1.A m1.ns.length m1.ca)∧w'.cell? ⟨w.heap.size+1,0,none⟩=some (.bool m2.none)∧w'.cell? ⟨w.heap.size+1,1,none⟩=some (.slice m2.P.A m2.P.rs.length m2.P.ca)∧w'.cell? ⟨w.heap.size+1,2,none⟩=some (.slice m2.P.C m2.P.us.length m2.P.cc)∧w'.cell? ⟨w.heap.size+1,3,none⟩=some (.slice m2.A m2.ns.length m2.ca))
    (first | (exact HKP.out _ _ (by assumption) hbz) | (with_reducible exact hS0))
    (first | (go_at_call 16;((with_reducible refine (G1.out _ (by assumption)).mono ?_);rintro e wz ⟨rfl,hbz⟩)) | (go_at_call 15;((with_reducible refine (G2.out _ (by assumption)).mono ?_);rintro e wz ⟨rfl,hbz⟩)) | (go_at_call 16;((with_reducible refine (G3.out _ (by assumption)).mono ?_);rintro e wz ⟨rfl,hbz⟩)) | (go_at_call 15;((with_reducible refine (G4.out _ (by assumption)).mono ?_);rintro e wz ⟨rfl,hbz⟩)) | (go_at_call 16;((with_reducible refine (G5.out _ (by assumption)).mono ?_);rintro e wz ⟨rfl,hbz⟩)) | (go_at_call 15;((with_reducible refine (G6.out _ (by assumption)).mono ?_);rintro e wz ⟨rfl,hbz⟩)) | (go_at_call 10;((with_reducible refine (G7.out _ (by assumption)).mono ?_);rintro e wz ⟨rfl,hbz⟩)))
   all_goals
    go_wp2_with fail
    have hs:Below w3.heap.size w3 wz∧wz.cell? ⟨w.heap.size,0,none⟩=some (.bool m1.none)∧wz.cell? ⟨w.heap.size,1,none⟩=some (.slice m1.P.A m1.P.rs.length m1.P.ca)∧wz.cell? ⟨w.heap.size,2,none⟩=some (.slice m1.P.C m1.P.us.length m1.P.cc)∧wz.cell? ⟨w.heap.size,3,none⟩=some (.slice m1.A m1.ns.length m1.ca)∧wz.cell? ⟨w.heap.size+1,0,none⟩=some (.bool m2.none)∧wz.cell? ⟨w.heap.size+1,1,none⟩=some (.slice m2.P.A m2.P.rs.length m2.P.ca)∧wz.cell? ⟨w.heap.size+1,2,none⟩=some (.slice m2.P.C m2.P.us.length m2.P.cc)∧wz.cell? ⟨w.heap.size+1,3,none⟩=some (.slice m2.A m2.ns.length m2.ca):=by assumption
    go_ret
    exact ⟨rfl,below_lift HB3.out hs.1⟩
end Go.Proofs.YtljekdpgjaahjaaGreatDoor

/- lorryref39: head. (Printed by wip/mku3.py.) -/
import Derived.Test.YtljekdpgjaahjaaGreatDoorPtU2
import Derived.Test.YtljekdpgjaahjaaGreatDoorPtFt
import Derived.Test.YtljekdpgjaahjaaGreatDoorPtV3
import Derived.Test.YtljekdpgjaahjaaGreatDoorPtV5
namespace Go.Proofs.YtljekdpgjaahjaaGreatDoor
open Go.RowKit Num Txt Pf
set_option linter.unusedVariables false
attribute [local go_sem] B_size B_get B_toList B_mk B_extract B_append
def HeadE (o:Option (Bool × PlanV)) (w:World) (e:Ending) (w':World):Prop:=∃ (q:Bool) (P:PlanM) (b:Bool),e=.returned (.tuple #[.agg #[.bool q,.slice P.A P.rs.length P.ca,.slice P.C P.us.length P.cc,.slice none 0 0],.bool b])∧o=(if b then some (q,P.v) else none)∧PlanO w' w.heap.size P∧Below w.heap.size w w'
theorem HeadE.fin {o:Option (Bool × PlanV)} {rb:Nat} {w w5:World} {P:PlanM} {q b:Bool} {x0 x1 x2 x3:Value} (h1:o=(if b then some (q,P.v) else none)) (h2:PlanO w5 w.heap.size P) (hb:Below w.heap.size w w5) (hres:w5.heap[rb]? = some proofZ) (hrb:w.heap.size≤rb) :
  HeadE o w (.returned (.tuple #[.agg #[.bool q,.slice P.A P.rs.length P.ca,.slice P.C P.us.length P.cc,.slice none 0 0],.bool b])) ((((w5.setCell ⟨rb,0,none⟩ x0).setCell ⟨rb,1,none⟩ x1).setCell ⟨rb,2,none⟩ x2).setCell ⟨rb,3,none⟩ x3):=by
 have k1:=((((KpB.refl rb w5).store 0 x0).store 1 x1).store 2 x2).store 3 x3
 exact ⟨q,P,b,rfl,h1,h2.keptB k1 hres (by decide) (by decide) (by decide) (by decide),(((hb.setCell hrb x0).setCell hrb x1).setCell hrb x2).setCell hrb x3⟩
theorem HeadE.none {o:Option (Bool × PlanV)} {rb:Nat} {w w5:World} {q:Bool} {x0 x1 x2 x3:Value} (h1:o=Option.none) (hb:Below w.heap.size w w5) (hres:w5.heap[rb]? = some proofZ) (hrb:w.heap.size≤rb) :
  HeadE o w (.returned (.tuple #[.agg #[.bool q,.slice Option.none 0 0,.slice Option.none 0 0,.slice Option.none 0 0],.bool false])) ((((w5.setCell ⟨rb,0,Option.none⟩ x0).setCell ⟨rb,1,Option.none⟩ x1).setCell ⟨rb,2,Option.none⟩ x2).setCell ⟨rb,3,Option.none⟩ x3) :=
 .fin (P:=⟨Option.none,0,[],Option.none,0,[]⟩) (b:=false) h1 (PlanO.nil _ _) hb hres hrb
theorem headR_no {l:Str} (h:wordsE l≠0∨(wordsL l).length<2∨3<(wordsL l).length):headR l=none:=by
 obtain ⟨h1,h2,h3⟩:=headR_bad (l:=l) rfl
 rcases h with h | h | h
 ·unfold headR;rw [if_neg h]
 ·exact h2 h
 ·exact h3 h
set_option maxHeartbeats 8000000 in
set_option maxRecDepth 100000 in
theorem rhead_any (l:Str) (w:World) (hs:l.length≤6000) :
  Calls Tryz.prog 37 #[.string (B l)] w (HeadE (headR l) w):=by
 obtain ⟨n1,p1⟩:=new_at w proofZ
 have HWD:=Lib.hid (rwords_any l (w.alloc proofZ) (by omega))
 have HWL:=Lib.hid (wordsL_le l)
 have HBAD:=Lib.hid (fun h=>@headR_no l h)
 have HA:=Lib.hid (fun a ws=>@headR_a l a ws)
 have H2:=Lib.hid (fun a b h=>@headR_two l a b h)
 have H3:=Lib.hid (fun a b c h=>@headR_three l a b c h)
 generalize headR l=R at *
 generalize wordsL l=wl at *
 generalize wordsE l=we at *
 go_enter Tryz.func37,Tryz.ntmps37
 simp only [B_mk]
 go_upto_region 1 with fail
 generalize w.alloc proofZ=w1 at *
 go_wp2_with fail
 refine HWD.out.mono ?_
 rintro e w3 ⟨WA,wc,rfl,hown,hb3⟩
 have HB3:=Lib.hid (below_lift n1 hb3)
 have HP3:=Lib.hid (row_keep p1 hb3)
 have HOW:=Lib.hid hown
 have hwl:wl.length≤6000:=by have:=HWL.out.1;omega
 have hcap:=hown.cap
 unfold maxLen at hcap
 have hcap2:wl.length≤wc∧wc≤2 ^ 63 - 1:=hcap
 clear n1 p1 hb3 HWD hown hcap
 by_cases hwe:we=0
 ·have e0:(we != 0)=false:=by rw [hwe];rfl
  by_cases hl2:wl.length<2
  ·have HN:=Lib.hid (HBAD.out (.inr (.inl hl2)))
   have i2:(wl.length:Int)<2:=by omega
   clear hl2 hwe
   obtain ⟨r0,r1,r2,r3⟩:=cells4 HP3.out
   have z0:=frz HP3.out 0
   have z1:=frz HP3.out 1
   have z2:=frz HP3.out 2
   have z3:=frz HP3.out 3
   go_wp2_with fail
   (try simp only [Exit.inBlock,Exit.then])
   refine bodyPost_ret (res_row rfl (ld_proof (pset4 HP3.out)) rfl rfl) rfl ?_
   exact .none HN.out HB3.out HP3.out (Nat.le_refl _)
  ·have i2:¬ (wl.length:Int)<2:=by omega
   obtain ⟨a,b,ws,hws⟩:∃ a b ws,wl=a :: b :: ws:=by
    match wl,hl2 with
    |a :: b :: ws,_=>exact ⟨a,b,ws,rfl⟩
    |[],h=>exact absurd (by decide) h
    |[_],h=>exact absurd (by simp) h
   have HWS:=Lib.hid hws
   have hcl:=HOW.out.cells
   rw [hws] at hcl
   obtain ⟨q,o,hq,hqlt,hx⟩:=hcl (by simp [strs])
   subst hq
   have x0:=hx 0 _ rfl
   have x1:=hx 1 _ rfl
   rw [Nat.add_zero] at x0
   have hx2:∀ c ws2,ws=c :: ws2→w3.cell? ⟨q,o+2,none⟩=some (.string (B c)):=fun c ws2 h=>hx 2 _ (by rw [h];rfl)
   have HX2:=Lib.hid hx2
   have HHA:=Lib.hid (fun h=>HA.out a _ hws h)
   clear hcl hx hx2 hws hl2
   by_cases ha:a=proofW
   ·have g1:(a == [112,114,111,111,102])=true:=by simpa using ha
    have g1':(a != [112,114,111,111,102])=false:=by simpa using ha
    have HAE:=Lib.hid ha
    clear ha HHA
    by_cases h2:wl.length=2
    ·have i3:((wl.length:Int) == 2)=true:=by rw [h2];rfl
     have i4:((wl.length:Int) != 3)=true:=by rw [h2];rfl
     have hw2:wl=[a,b]:=by
      have:=HWS.out
      rw [this] at h2
      simp at h2
      rw [this,h2]
     by_cases hb:b=noneW
     ·have g2:(b == [110,111,110,101])=true:=by simpa using hb
      have HN:=Lib.hid (show R=some (true,⟨[],[]⟩) by rw [H2.out a b hwe hw2,if_pos ⟨HAE.out,hb⟩])
      clear h2 hw2 hb hwe
      obtain ⟨r0,r1,r2,r3⟩:=cells4 HP3.out
      have z0:=frz HP3.out 0
      have z1:=frz HP3.out 1
      have z2:=frz HP3.out 2
      have z3:=frz HP3.out 3
      go_wp2_with fail
      (try simp only [Exit.inBlock,Exit.then])
      refine bodyPost_ret (res_row rfl (ld_proof (pset4 HP3.out)) rfl rfl) rfl ?_
      exact .fin (P:=⟨none,0,[],none,0,[]⟩) (b:=true) HN.out (PlanO.nil _ _) HB3.out HP3.out (Nat.le_refl _)
     ·have g2:(b == [110,111,110,101])=false:=by simpa using hb
      have HN:=Lib.hid (show R=none by rw [H2.out a b hwe hw2,if_neg fun h=>hb h.2])
      clear h2 hw2 hb hwe
      obtain ⟨r0,r1,r2,r3⟩:=cells4 HP3.out
      have z0:=frz HP3.out 0
      have z1:=frz HP3.out 1
      have z2:=frz HP3.out 2
      have z3:=frz HP3.out 3
      go_wp2_with fail
      (try simp only [Exit.inBlock,Exit.then])
      refine bodyPost_ret (res_row rfl (ld_proof (pset4 HP3.out)) rfl rfl) rfl ?_
      exact .none HN.out HB3.out HP3.out (Nat.le_refl _)
    ·have i3:((wl.length:Int) == 2)=false:=by rw [beq_eq_false_iff_ne];omega
     by_cases h3:wl.length=3
     ·have i4:((wl.length:Int) != 3)=false:=by rw [h3];rfl
      obtain ⟨c,rfl⟩:∃ c,ws=[c]:=by
       have:=HWS.out
       rw [this] at h3
       match ws,h3 with
       |[c],_=>exact ⟨c,rfl⟩
       |[],h=>exact absurd h (by simp)
       |_ :: _ :: _,h=>exact absurd h (by simp)
      have x2:=HX2.out c [] rfl
      have HHC:=Lib.hid (H3.out a b c hwe HWS.out)
      have hcl:c.length≤6000:=by have:=HWL.out.2 c (by rw [HWS.out];simp);omega
      have i5:2<wl.length:=by omega
      have i6:(2:Int)<(wl.length:Int):=by omega
      clear h2 h3 hwe
      by_cases hb:b=planW
      ·have g2:(b == [112,108,97,110])=true:=by simpa using hb
       have g2':(b != [112,108,97,110])=false:=by simpa using hb
       have HH:=Lib.hid (show R=if unqE c=0∧(planR (unqS c)).2.2=0∧planS (planR (unqS c)).1=unqS c then some (false,(planR (unqS c)).1) else none by
        rw [HHC.out]
        by_cases h:unqE c=0∧(planR (unqS c)).2.2=0∧planS (planR (unqS c)).1=unqS c
        ·rw [if_pos ⟨HAE.out,hb,h⟩,if_pos h]
        ·rw [if_neg fun h1=>h h1.2.2,if_neg h])
       have HUQ:=Lib.hid (fun w'=>runquote_any c w' (by omega))
       have hul:(unqS c).length≤6000:=Nat.le_trans (unqS_le c) hcl
       have HPA:=Lib.hid (fun w'=>rplparse_any (unqS c) w' (by omega))
       have HPLE:=Lib.hid (planR_le (unqS c))
       clear hb HHC hcl HX2 HWS HA H2 H3 HBAD HWL
       generalize unqE c=ue at *
       generalize unqS c=us at *
       generalize planR us=PR at *
       have HU3:=Lib.hid (HUQ.out w3)
       go_wp2_with fail
       refine HU3.out.mono ?_
       rintro e w4 ⟨rfl,hb4⟩
       have HB4:=Lib.hid (below_lift HB3.out hb4)
       have HP4:=Lib.hid (row_keep HP3.out hb4)
       have HPA4:=Lib.hid (HPA.out w4)
       clear hb4 HU3 HUQ HPA x0 x1 x2 HOW HP3 HB3
       go_wp2_with fail
       refine HPA4.out.mono ?_
       rintro e w5 ⟨P,rfl,hpr,hpo,hb5⟩
       obtain ⟨n6,p6⟩:=new_at w5 (planB P)
       have HB5:=Lib.hid (below_lift HB4.out hb5)
       have HB6:=Lib.hid (below_lift HB5.out n6)
       have HP6:=Lib.hid (row_keep (row_keep HP4.out hb5) n6)
       have HO6:=Lib.hid (show PlanO (w5.alloc (planB P)) w.heap.size P from (hpo.mono HB4.out.size).below n6)
       have HQ6:=Lib.hid p6
       have HPR:=Lib.hid hpr
       clear hb5 n6 p6 hpo hpr HPA4 HB4 HP4
       go_upto_region 10 with fail
       generalize w5.alloc (planB P)=w6 at *
       generalize w5.heap.size=pb at *
       by_cases hue:ue=0
       ·have f1:(ue != 0)=false:=by rw [hue];rfl
        by_cases hpe:PR.2.2=0
        ·have f2:(PR.2.2 != 0)=false:=by rw [hpe];rfl
         obtain ⟨q0,q1⟩:=cells2 HQ6.out
         have HPS:=Lib.hid (rplprint_any P w6 HO6.out.at_ (by
          have:=HPLE.out.1
          rw [← HPR.out,show P.v.rous=P.rs.map (·.r) from rfl,List.length_map] at this;omega) (by
          have:=HPLE.out.2.2
          rw [← HPR.out,show P.v.uns=P.us from rfl] at this;omega) (fun r hr=>by
          have:=HPLE.out.2.1 r.r (by rw [← HPR.out];exact List.mem_map_of_mem hr)
          omega))
         rw [HPR.out] at HPS
         have HHG:=Lib.hid (show R=if planS PR.1=us then some (false,PR.1) else none by
          rw [HH.out]
          by_cases h:planS PR.1=us
          ·rw [if_pos ⟨hue,hpe,h⟩,if_pos h]
          ·rw [if_neg fun h1=>h h1.2.2,if_neg h])
         clear hue hpe
         generalize planS PR.1=ps at *
         go_wp2_with fail
         refine HPS.out.mono ?_
         rintro e w7 ⟨rfl,hb7⟩
         have HB7:=Lib.hid (below_lift HB6.out hb7)
         have HP7:=Lib.hid (row_keep HP6.out hb7)
         have HO7:=Lib.hid (HO6.out.below hb7)
         have HQ7:=Lib.hid (row_keep HQ6.out hb7)
         clear hb7 HPS q0 q1 HB6 HP6 HO6 HQ6
         by_cases hps:ps=us
         ·have HN:=Lib.hid (show R=some (false,PR.1) by rw [HHG.out,if_pos hps])
          have g3:(ps == us)=true:=by simpa using hps
          have g3':(ps != us)=false:=by simpa using hps
          clear hps
          obtain ⟨q0,q1⟩:=cells2 HQ7.out
          obtain ⟨r0,r1,r2,r3⟩:=cells4 HP7.out
          have z0:=frz HP7.out 0
          have z1:=frz HP7.out 1
          have z2:=frz HP7.out 2
          have z3:=frz HP7.out 3
          go_wp2_with fail
          (try simp only [Exit.inBlock,Exit.then])
          refine bodyPost_ret (res_row rfl (ld_proof (pset4 HP7.out)) rfl rfl) rfl ?_
          exact .fin (P:=P) (b:=true) (by rw [HN.out,← HPR.out];rfl) HO7.out HB7.out HP7.out (Nat.le_refl _)
         ·have HN:=Lib.hid (show R=none by rw [HHG.out,if_neg hps])
          have g3:(ps == us)=false:=by simpa using hps
          have g3':(ps != us)=true:=by simpa using hps
          clear hps
          obtain ⟨r0,r1,r2,r3⟩:=cells4 HP7.out
          have z0:=frz HP7.out 0
          have z1:=frz HP7.out 1
          have z2:=frz HP7.out 2
          have z3:=frz HP7.out 3
          go_wp2_with fail
          (try simp only [Exit.inBlock,Exit.then])
          refine bodyPost_ret (res_row rfl (ld_proof (pset4 HP7.out)) rfl rfl) rfl ?_
          exact .none HN.out HB7.out HP7.out (Nat.le_refl _)
        ·have f2:(PR.2.2 != 0)=true:=by simpa using hpe
         have HN:=Lib.hid (show R=none by rw [HH.out,if_neg fun h=>hpe h.2.1])
         clear hue hpe
         obtain ⟨r0,r1,r2,r3⟩:=cells4 HP6.out
         have z0:=frz HP6.out 0
         have z1:=frz HP6.out 1
         have z2:=frz HP6.out 2
         have z3:=frz HP6.out 3
         go_wp2_with fail
         (try simp only [Exit.inBlock,Exit.then])
         refine bodyPost_ret (res_row rfl (ld_proof (pset4 HP6.out)) rfl rfl) rfl ?_
         exact .none HN.out HB6.out HP6.out (Nat.le_refl _)
       ·have f1:(ue != 0)=true:=by simpa using hue
        have HN:=Lib.hid (show R=none by rw [HH.out,if_neg fun h=>hue h.1])
        clear hue
        obtain ⟨r0,r1,r2,r3⟩:=cells4 HP6.out
        have z0:=frz HP6.out 0
        have z1:=frz HP6.out 1
        have z2:=frz HP6.out 2
        have z3:=frz HP6.out 3
        go_wp2_with fail
        (try simp only [Exit.inBlock,Exit.then])
        refine bodyPost_ret (res_row rfl (ld_proof (pset4 HP6.out)) rfl rfl) rfl ?_
        exact .none HN.out HB6.out HP6.out (Nat.le_refl _)
      ·have g2:(b == [112,108,97,110])=false:=by simpa using hb
       have g2':(b != [112,108,97,110])=true:=by simpa using hb
       have HN:=Lib.hid (show R=none by rw [HHC.out,if_neg fun h=>hb h.2.1])
       clear hb
       obtain ⟨r0,r1,r2,r3⟩:=cells4 HP3.out
       have z0:=frz HP3.out 0
       have z1:=frz HP3.out 1
       have z2:=frz HP3.out 2
       have z3:=frz HP3.out 3
       go_wp2_with fail
       (try simp only [Exit.inBlock,Exit.then])
       refine bodyPost_ret (res_row rfl (ld_proof (pset4 HP3.out)) rfl rfl) rfl ?_
       exact .none HN.out HB3.out HP3.out (Nat.le_refl _)
     ·have i4:((wl.length:Int) != 3)=true:=by rw [bne_iff_ne];omega
      have HN:=Lib.hid (HBAD.out (.inr (.inr (show 3<wl.length from by
       have:=HWS.out
       rw [this] at h2 h3 ⊢
       simp only [List.length_cons] at h2 h3 ⊢
       omega))))
      clear h2 h3 hwe
      obtain ⟨r0,r1,r2,r3⟩:=cells4 HP3.out
      have z0:=frz HP3.out 0
      have z1:=frz HP3.out 1
      have z2:=frz HP3.out 2
      have z3:=frz HP3.out 3
      go_wp2_with fail
      (try simp only [Exit.inBlock,Exit.then])
      refine bodyPost_ret (res_row rfl (ld_proof (pset4 HP3.out)) rfl rfl) rfl ?_
      exact .none HN.out HB3.out HP3.out (Nat.le_refl _)
   ·have g1:(a == [112,114,111,111,102])=false:=by simpa using ha
    have g1':(a != [112,114,111,111,102])=true:=by simpa using ha
    have HN:=Lib.hid (HHA.out ha)
    clear ha hwe
    obtain ⟨r0,r1,r2,r3⟩:=cells4 HP3.out
    have z0:=frz HP3.out 0
    have z1:=frz HP3.out 1
    have z2:=frz HP3.out 2
    have z3:=frz HP3.out 3
    go_wp2_with fail
    (try simp only [Exit.inBlock,Exit.then])
    refine bodyPost_ret (res_row rfl (ld_proof (pset4 HP3.out)) rfl rfl) rfl ?_
    exact .none HN.out HB3.out HP3.out (Nat.le_refl _)
 ·have e0:(we != 0)=true:=by simpa using hwe
  have HN:=Lib.hid (HBAD.out (.inl hwe))
  clear hwe
  obtain ⟨r0,r1,r2,r3⟩:=cells4 HP3.out
  have z0:=frz HP3.out 0
  have z1:=frz HP3.out 1
  have z2:=frz HP3.out 2
  have z3:=frz HP3.out 3
  go_wp2_with fail
  (try simp only [Exit.inBlock,Exit.then])
  refine bodyPost_ret (res_row rfl (ld_proof (pset4 HP3.out)) rfl rfl) rfl ?_
  exact .none HN.out HB3.out HP3.out (Nat.le_refl _)
end Go.Proofs.YtljekdpgjaahjaaGreatDoor

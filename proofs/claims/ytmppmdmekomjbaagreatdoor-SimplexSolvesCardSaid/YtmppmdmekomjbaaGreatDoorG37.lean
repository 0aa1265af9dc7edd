/- simplex: Check of a clean program. (Printed by wip/sxck.py.) -/
import Derived.Test.YtmppmdmekomjbaaGreatDoorG36
import Derived.Test.YtmppmdmekomjbaaGreatDoorLProg7
import Derived.Test.YtmppmdmekomjbaaGreatDoorG17
import Derived.Test.YtmppmdmekomjbaaGreatDoorG16
import Derived.Test.YtmppmdmekomjbaaGreatDoorG18
import Derived.Deep.QuietTactic
import Derived.BigQuiet
import Derived.Test.YtmppmdmekomjbaaGreatDoorG33
namespace Go.Proofs.YtmppmdmekomjbaaGreatDoor
open Go.RowKit Num
set_option linter.unusedVariables false
attribute [local go_sem] B_size B_get B_toList B_mk B_extract B_append
def chkA (p:LinL) (m:Nat) (a:AnsL):Int :=
 if (a.kind == 1 || a.kind == 2 || a.kind == 3)=false then 8
 else if sizesB p.cost.length m a=false then 2
 else if (a.X.all rightQ && a.dual.all rightQ && a.ray.all rightQ && (!(a.kind == 1) || rightQ a.value))=false then 3
 else if (!(a.kind == 2) && !fitsB p a.X)=true then 24
 else if ((a.kind == 1 && !provedB p a) || (a.kind == 2 && !refutesB p a.dual))=true then 26
 else if (a.kind == 3 && !fallsB p a.ray)=true then 25 else 0
set_option maxHeartbeats 8000000 in
set_option maxRecDepth 100000 in
theorem sxcheck_any (cost:List Int) (rs:List RowV) (A:Option Addr) (ca:Nat) (R:Option Addr) (cr:Nat) (a:AnsL) (X Y Z:Option Addr) (cx cy cz:Nat) (w:World) (hm:rs.length≤1000000) (hcl:checkK (linOf cost rs) rs.length=[]) (hwf:∀ r ∈ rs,r.L.coef.length=cost.length) (hk:∀ r ∈ rs,r.L.kind=1∨r.L.kind=2∨r.L.kind=3)
  (hp:LinAt w cost rs A ca R cr) (hX:RatsAt w a.X X cx) (hY:RatsAt w a.dual Y cy) (hZ:RatsAt w a.ray Z cz) (hv:a.value.length≤1000000) (he:Env w) :
  Calls Tryz.prog 13 #[linV A cost.length ca R rs.length cr,ansP a X Y Z cx cy cz] w fun e w'=>e=.returned (.int .i64 (chkA (linOf cost rs) rs.length a))∧Below w.heap.size w w':=by
 obtain ⟨ak,aX,aD,aR,aV⟩:=a
 have b1:=new_below w (linO A cost.length ca R rs.length cr)
 have b2:=new_below (w.alloc (linO A cost.length ca R rs.length cr)) (.cells #[.int .i64 ak,.slice X aX.length cx,.slice Y aD.length cy,.slice Z aR.length cz,.string (B aV)] 31)
 have b12:=below_lift3 b1 b2
 have HT:=Lib.hid (two_box (w:=w) A cost.length ca R rs.length cr ak (.slice X aX.length cx) (.slice Y aD.length cy) (.slice Z aR.length cz) aV)
 have HCK:=Lib.hid (fun w' (h:Below w.heap.size w w')=>lcheck_any cost rs A ca R cr w' hm (hp.below h) (he.below h).1)
 rw [hcl] at HCK
 have HSZ:=Lib.hid (fun w'=>sxsizes_any cost.length rs.length A ca R cr ⟨ak,aX,aD,aR,aV⟩ X Y Z cx cy cz w')
 have HRX:=Lib.hid (fun w' (h:Below w.heap.size w w')=>sxright_any aX X cx w' (hX.below h) (he.below h))
 have HRD:=Lib.hid (fun w' (h:Below w.heap.size w w')=>sxright_any aD Y cy w' (hY.below h) (he.below h))
 have HRR:=Lib.hid (fun w' (h:Below w.heap.size w w')=>sxright_any aR Z cz w' (hZ.below h) (he.below h))
 have HRV:=Lib.hid (fun w' (h:Below w.heap.size w w')=>rq_any aV w' hv (he.below h))
 have HFI:=Lib.hid (fun w' (h:Below w.heap.size w w')=>lfits_any cost rs A ca R cr aX X cx w' (hp.below h) (hX.below h) (he.below h))
 have HPR:=Lib.hid (fun w' (h:Below w.heap.size w w')=>sxproved_any cost rs A ca R cr ⟨ak,aX,aD,aR,aV⟩ X Y Z cx cy cz w' hm hwf (hp.below h) (hX.below h) (hY.below h) (he.below h))
 have HRF:=Lib.hid (fun w' (h:Below w.heap.size w w')=>lrefutes_any cost rs A ca R cr aD Y cy w' hm hwf (hp.below h) (hY.below h) (he.below h))
 have HFA:=Lib.hid (fun w' (h:Below w.heap.size w w')=>sxfalls_any cost rs A ca R cr aR Z cz w' hm hk (hp.below h) (hZ.below h) (he.below h))
 have HD:=Lib.hid (show chkA (linOf cost rs) rs.length ⟨ak,aX,aD,aR,aV⟩=(if (ak == 1 || ak == 2 || ak == 3)=false then 8
  else if sizesB cost.length rs.length ⟨ak,aX,aD,aR,aV⟩=false then 2
  else if (aX.all rightQ && aD.all rightQ && aR.all rightQ && (!(ak == 1) || rightQ aV))=false then 3
  else if (!(ak == 2) && !fitsB (linOf cost rs) aX)=true then 24
  else if ((ak == 1 && !provedB (linOf cost rs) ⟨ak,aX,aD,aR,aV⟩) || (ak == 2 && !refutesB (linOf cost rs) aD))=true then 26
  else if (ak == 3 && !fallsB (linOf cost rs) aR)=true then 25 else 0) from rfl)
 have HB12:=Lib.hid b12
 clear hp hX hY hZ b1 b2 b12 hcl
 generalize chkA (linOf cost rs) rs.length ⟨ak,aX,aD,aR,aV⟩=res at *
 generalize sizesB cost.length rs.length ⟨ak,aX,aD,aR,aV⟩=bS at *
 generalize provedB (linOf cost rs) ⟨ak,aX,aD,aR,aV⟩=bP at *
 generalize refutesB (linOf cost rs) aD=bR at *
 generalize fallsB (linOf cost rs) aR=bF at *
 generalize fitsB (linOf cost rs) aX=bX at *
 generalize aX.all rightQ=rX at *
 generalize aD.all rightQ=rD at *
 generalize aR.all rightQ=rR at *
 generalize rightQ aV=rV at *
 go_enter Tryz.func13,Tryz.ntmps13
 go_upto_region 1 with fail
 generalize (w.alloc (linO A cost.length ca R rs.length cr)).alloc (.cells #[.int .i64 ak,.slice X aX.length cx,.slice Y aD.length cy,.slice Z aR.length cz,.string (B aV)] 31)=wB at *
 obtain ⟨⟨x0,x1⟩,y0,y1,y2,y3,y4⟩:=HT.out wB (Below.refl _ _)
 have HC1:=Lib.hid (HCK.out wB HB12.out)
 go_wp2_with fail
 refine HC1.out.mono ?_
 rintro e w0 ⟨⟨v,rfl,hF⟩,hb0⟩
 obtain ⟨F,cf,rfl,_⟩:=hF
 obtain ⟨⟨x0,x1⟩,y0,y1,y2,y3,y4⟩:=HT.out w0 hb0
 have hw0:=below_lift3 HB12.out hb0
 clear HC1 HCK
 by_cases e1:ak=1
 ·subst e1
  have HS1:=Lib.hid (HSZ.out w0)
  cases hb:bS
  ·rw [hb] at HS1
   have HR:=Lib.hid (show res=2 by rw [HD.out];simp [hb])
   clear hb
   go_wp2_with fail
   refine HS1.out.mono ?_
   rintro e w1 ⟨rfl,hb1⟩
   have hw1:=below_lift3 hw0 hb1
   go_wp2_with fail
   go_ret
   exact ⟨ret_int HR.out.symm,hw1⟩
  ·rw [hb] at HS1
   have K1:=Lib.hid hb
   clear hb
   go_wp2_with fail
   refine HS1.out.mono ?_
   rintro e w1 ⟨rfl,hb1⟩
   have hB1:=below_lift3 hb0 hb1
   have hw1:=below_lift3 hw0 hb1
   clear x0 x1 y0 y1 y2 y3 y4
   obtain ⟨⟨x0,x1⟩,y0,y1,y2,y3,y4⟩:=HT.out w1 hB1
   have HS2:=Lib.hid (HRX.out w1 hw1)
   cases hb:rX
   ·rw [hb] at HS2
    have HR:=Lib.hid (show res=3 by rw [HD.out];simp [hb,K1.out])
    clear hb
    go_wp2_with fail
    refine HS2.out.mono ?_
    rintro e w2 ⟨rfl,hb2⟩
    have hw2:=below_lift3 hw1 hb2
    go_wp2_with fail
    go_ret
    exact ⟨ret_int HR.out.symm,hw2⟩
   ·rw [hb] at HS2
    have K2:=Lib.hid hb
    clear hb
    go_wp2_with fail
    refine HS2.out.mono ?_
    rintro e w2 ⟨rfl,hb2⟩
    have hB2:=below_lift3 hB1 hb2
    have hw2:=below_lift3 hw1 hb2
    clear x0 x1 y0 y1 y2 y3 y4
    obtain ⟨⟨x0,x1⟩,y0,y1,y2,y3,y4⟩:=HT.out w2 hB2
    have HS3:=Lib.hid (HRD.out w2 hw2)
    cases hb:rD
    ·rw [hb] at HS3
     have HR:=Lib.hid (show res=3 by rw [HD.out];simp [hb,K1.out,K2.out])
     clear hb
     go_wp2_with fail
     refine HS3.out.mono ?_
     rintro e w3 ⟨rfl,hb3⟩
     have hw3:=below_lift3 hw2 hb3
     go_wp2_with fail
     go_ret
     exact ⟨ret_int HR.out.symm,hw3⟩
    ·rw [hb] at HS3
     have K3:=Lib.hid hb
     clear hb
     go_wp2_with fail
     refine HS3.out.mono ?_
     rintro e w3 ⟨rfl,hb3⟩
     have hB3:=below_lift3 hB2 hb3
     have hw3:=below_lift3 hw2 hb3
     clear x0 x1 y0 y1 y2 y3 y4
     obtain ⟨⟨x0,x1⟩,y0,y1,y2,y3,y4⟩:=HT.out w3 hB3
     have HS4:=Lib.hid (HRR.out w3 hw3)
     cases hb:rR
     ·rw [hb] at HS4
      have HR:=Lib.hid (show res=3 by rw [HD.out];simp [hb,K1.out,K2.out,K3.out])
      clear hb
      go_wp2_with fail
      refine HS4.out.mono ?_
      rintro e w4 ⟨rfl,hb4⟩
      have hw4:=below_lift3 hw3 hb4
      go_wp2_with fail
      go_ret
      exact ⟨ret_int HR.out.symm,hw4⟩
     ·rw [hb] at HS4
      have K4:=Lib.hid hb
      clear hb
      go_wp2_with fail
      refine HS4.out.mono ?_
      rintro e w4 ⟨rfl,hb4⟩
      have hB4:=below_lift3 hB3 hb4
      have hw4:=below_lift3 hw3 hb4
      clear x0 x1 y0 y1 y2 y3 y4
      obtain ⟨⟨x0,x1⟩,y0,y1,y2,y3,y4⟩:=HT.out w4 hB4
      have HS5:=Lib.hid (HRV.out w4 hw4)
      cases hb:rV
      ·rw [hb] at HS5
       have HR:=Lib.hid (show res=3 by rw [HD.out];simp [hb,K1.out,K2.out,K3.out,K4.out])
       clear hb
       go_wp2_with fail
       refine HS5.out.mono ?_
       rintro e w5 ⟨rfl,hb5⟩
       have hw5:=below_lift3 hw4 hb5
       go_wp2_with fail
       go_ret
       exact ⟨ret_int HR.out.symm,hw5⟩
      ·rw [hb] at HS5
       have K5:=Lib.hid hb
       clear hb
       go_wp2_with fail
       refine HS5.out.mono ?_
       rintro e w5 ⟨rfl,hb5⟩
       have hB5:=below_lift3 hB4 hb5
       have hw5:=below_lift3 hw4 hb5
       clear x0 x1 y0 y1 y2 y3 y4
       obtain ⟨⟨x0,x1⟩,y0,y1,y2,y3,y4⟩:=HT.out w5 hB5
       have HS6:=Lib.hid (HFI.out w5 hw5)
       cases hb:bX
       ·rw [hb] at HS6
        have HR:=Lib.hid (show res=24 by rw [HD.out];simp [hb,K1.out,K2.out,K3.out,K4.out,K5.out])
        clear hb
        go_wp2_with fail
        refine HS6.out.mono ?_
        rintro e w6 ⟨rfl,hb6⟩
        have hw6:=below_lift3 hw5 hb6
        go_wp2_with fail
        go_ret
        exact ⟨ret_int HR.out.symm,hw6⟩
       ·rw [hb] at HS6
        have K6:=Lib.hid hb
        clear hb
        go_wp2_with fail
        refine HS6.out.mono ?_
        rintro e w6 ⟨rfl,hb6⟩
        have hB6:=below_lift3 hB5 hb6
        have hw6:=below_lift3 hw5 hb6
        clear x0 x1 y0 y1 y2 y3 y4
        obtain ⟨⟨x0,x1⟩,y0,y1,y2,y3,y4⟩:=HT.out w6 hB6
        have HS7:=Lib.hid (HPR.out w6 hw6)
        cases hb:bP
        ·rw [hb] at HS7
         have HR:=Lib.hid (show res=26 by rw [HD.out];simp [hb,K1.out,K2.out,K3.out,K4.out,K5.out,K6.out])
         clear hb
         go_wp2_with fail
         refine HS7.out.mono ?_
         rintro e w7 ⟨rfl,hb7⟩
         have hw7:=below_lift3 hw6 hb7
         go_wp2_with fail
         go_ret
         exact ⟨ret_int HR.out.symm,hw7⟩
        ·rw [hb] at HS7
         have K7:=Lib.hid hb
         clear hb
         go_wp2_with fail
         refine HS7.out.mono ?_
         rintro e w7 ⟨rfl,hb7⟩
         have hB7:=below_lift3 hB6 hb7
         have hw7:=below_lift3 hw6 hb7
         clear x0 x1 y0 y1 y2 y3 y4
         obtain ⟨⟨x0,x1⟩,y0,y1,y2,y3,y4⟩:=HT.out w7 hB7
         have HR:=Lib.hid (show res=0 by rw [HD.out];simp [K1.out,K2.out,K3.out,K4.out,K5.out,K6.out,K7.out])
         go_wp2_with fail
         go_ret
         exact ⟨ret_int HR.out.symm,hw7⟩
 ·by_cases e2:ak=2
  ·subst e2
   have HS1:=Lib.hid (HSZ.out w0)
   cases hb:bS
   ·rw [hb] at HS1
    have HR:=Lib.hid (show res=2 by rw [HD.out];simp [hb])
    clear hb
    go_wp2_with fail
    refine HS1.out.mono ?_
    rintro e w1 ⟨rfl,hb1⟩
    have hw1:=below_lift3 hw0 hb1
    go_wp2_with fail
    go_ret
    exact ⟨ret_int HR.out.symm,hw1⟩
   ·rw [hb] at HS1
    have K1:=Lib.hid hb
    clear hb
    go_wp2_with fail
    refine HS1.out.mono ?_
    rintro e w1 ⟨rfl,hb1⟩
    have hB1:=below_lift3 hb0 hb1
    have hw1:=below_lift3 hw0 hb1
    clear x0 x1 y0 y1 y2 y3 y4
    obtain ⟨⟨x0,x1⟩,y0,y1,y2,y3,y4⟩:=HT.out w1 hB1
    have HS2:=Lib.hid (HRX.out w1 hw1)
    cases hb:rX
    ·rw [hb] at HS2
     have HR:=Lib.hid (show res=3 by rw [HD.out];simp [hb,K1.out])
     clear hb
     go_wp2_with fail
     refine HS2.out.mono ?_
     rintro e w2 ⟨rfl,hb2⟩
     have hw2:=below_lift3 hw1 hb2
     go_wp2_with fail
     go_ret
     exact ⟨ret_int HR.out.symm,hw2⟩
    ·rw [hb] at HS2
     have K2:=Lib.hid hb
     clear hb
     go_wp2_with fail
     refine HS2.out.mono ?_
     rintro e w2 ⟨rfl,hb2⟩
     have hB2:=below_lift3 hB1 hb2
     have hw2:=below_lift3 hw1 hb2
     clear x0 x1 y0 y1 y2 y3 y4
     obtain ⟨⟨x0,x1⟩,y0,y1,y2,y3,y4⟩:=HT.out w2 hB2
     have HS3:=Lib.hid (HRD.out w2 hw2)
     cases hb:rD
     ·rw [hb] at HS3
      have HR:=Lib.hid (show res=3 by rw [HD.out];simp [hb,K1.out,K2.out])
      clear hb
      go_wp2_with fail
      refine HS3.out.mono ?_
      rintro e w3 ⟨rfl,hb3⟩
      have hw3:=below_lift3 hw2 hb3
      go_wp2_with fail
      go_ret
      exact ⟨ret_int HR.out.symm,hw3⟩
     ·rw [hb] at HS3
      have K3:=Lib.hid hb
      clear hb
      go_wp2_with fail
      refine HS3.out.mono ?_
      rintro e w3 ⟨rfl,hb3⟩
      have hB3:=below_lift3 hB2 hb3
      have hw3:=below_lift3 hw2 hb3
      clear x0 x1 y0 y1 y2 y3 y4
      obtain ⟨⟨x0,x1⟩,y0,y1,y2,y3,y4⟩:=HT.out w3 hB3
      have HS4:=Lib.hid (HRR.out w3 hw3)
      cases hb:rR
      ·rw [hb] at HS4
       have HR:=Lib.hid (show res=3 by rw [HD.out];simp [hb,K1.out,K2.out,K3.out])
       clear hb
       go_wp2_with fail
       refine HS4.out.mono ?_
       rintro e w4 ⟨rfl,hb4⟩
       have hw4:=below_lift3 hw3 hb4
       go_wp2_with fail
       go_ret
       exact ⟨ret_int HR.out.symm,hw4⟩
      ·rw [hb] at HS4
       have K4:=Lib.hid hb
       clear hb
       go_wp2_with fail
       refine HS4.out.mono ?_
       rintro e w4 ⟨rfl,hb4⟩
       have hB4:=below_lift3 hB3 hb4
       have hw4:=below_lift3 hw3 hb4
       clear x0 x1 y0 y1 y2 y3 y4
       obtain ⟨⟨x0,x1⟩,y0,y1,y2,y3,y4⟩:=HT.out w4 hB4
       have HS5:=Lib.hid (HRF.out w4 hw4)
       cases hb:bR
       ·rw [hb] at HS5
        have HR:=Lib.hid (show res=26 by rw [HD.out];simp [hb,K1.out,K2.out,K3.out,K4.out])
        clear hb
        go_wp2_with fail
        refine HS5.out.mono ?_
        rintro e w5 ⟨rfl,hb5⟩
        have hw5:=below_lift3 hw4 hb5
        go_wp2_with fail
        go_ret
        exact ⟨ret_int HR.out.symm,hw5⟩
       ·rw [hb] at HS5
        have K5:=Lib.hid hb
        clear hb
        go_wp2_with fail
        refine HS5.out.mono ?_
        rintro e w5 ⟨rfl,hb5⟩
        have hB5:=below_lift3 hB4 hb5
        have hw5:=below_lift3 hw4 hb5
        clear x0 x1 y0 y1 y2 y3 y4
        obtain ⟨⟨x0,x1⟩,y0,y1,y2,y3,y4⟩:=HT.out w5 hB5
        have HR:=Lib.hid (show res=0 by rw [HD.out];simp [K1.out,K2.out,K3.out,K4.out,K5.out])
        go_wp2_with fail
        go_ret
        exact ⟨ret_int HR.out.symm,hw5⟩
  ·by_cases e3:ak=3
   ·subst e3
    have HS1:=Lib.hid (HSZ.out w0)
    cases hb:bS
    ·rw [hb] at HS1
     have HR:=Lib.hid (show res=2 by rw [HD.out];simp [hb])
     clear hb
     go_wp2_with fail
     refine HS1.out.mono ?_
     rintro e w1 ⟨rfl,hb1⟩
     have hw1:=below_lift3 hw0 hb1
     go_wp2_with fail
     go_ret
     exact ⟨ret_int HR.out.symm,hw1⟩
    ·rw [hb] at HS1
     have K1:=Lib.hid hb
     clear hb
     go_wp2_with fail
     refine HS1.out.mono ?_
     rintro e w1 ⟨rfl,hb1⟩
     have hB1:=below_lift3 hb0 hb1
     have hw1:=below_lift3 hw0 hb1
     clear x0 x1 y0 y1 y2 y3 y4
     obtain ⟨⟨x0,x1⟩,y0,y1,y2,y3,y4⟩:=HT.out w1 hB1
     have HS2:=Lib.hid (HRX.out w1 hw1)
     cases hb:rX
     ·rw [hb] at HS2
      have HR:=Lib.hid (show res=3 by rw [HD.out];simp [hb,K1.out])
      clear hb
      go_wp2_with fail
      refine HS2.out.mono ?_
      rintro e w2 ⟨rfl,hb2⟩
      have hw2:=below_lift3 hw1 hb2
      go_wp2_with fail
      go_ret
      exact ⟨ret_int HR.out.symm,hw2⟩
     ·rw [hb] at HS2
      have K2:=Lib.hid hb
      clear hb
      go_wp2_with fail
      refine HS2.out.mono ?_
      rintro e w2 ⟨rfl,hb2⟩
      have hB2:=below_lift3 hB1 hb2
      have hw2:=below_lift3 hw1 hb2
      clear x0 x1 y0 y1 y2 y3 y4
      obtain ⟨⟨x0,x1⟩,y0,y1,y2,y3,y4⟩:=HT.out w2 hB2
      have HS3:=Lib.hid (HRD.out w2 hw2)
      cases hb:rD
      ·rw [hb] at HS3
       have HR:=Lib.hid (show res=3 by rw [HD.out];simp [hb,K1.out,K2.out])
       clear hb
       go_wp2_with fail
       refine HS3.out.mono ?_
       rintro e w3 ⟨rfl,hb3⟩
       have hw3:=below_lift3 hw2 hb3
       go_wp2_with fail
       go_ret
       exact ⟨ret_int HR.out.symm,hw3⟩
      ·rw [hb] at HS3
       have K3:=Lib.hid hb
       clear hb
       go_wp2_with fail
       refine HS3.out.mono ?_
       rintro e w3 ⟨rfl,hb3⟩
       have hB3:=below_lift3 hB2 hb3
       have hw3:=below_lift3 hw2 hb3
       clear x0 x1 y0 y1 y2 y3 y4
       obtain ⟨⟨x0,x1⟩,y0,y1,y2,y3,y4⟩:=HT.out w3 hB3
       have HS4:=Lib.hid (HRR.out w3 hw3)
       cases hb:rR
       ·rw [hb] at HS4
        have HR:=Lib.hid (show res=3 by rw [HD.out];simp [hb,K1.out,K2.out,K3.out])
        clear hb
        go_wp2_with fail
        refine HS4.out.mono ?_
        rintro e w4 ⟨rfl,hb4⟩
        have hw4:=below_lift3 hw3 hb4
        go_wp2_with fail
        go_ret
        exact ⟨ret_int HR.out.symm,hw4⟩
       ·rw [hb] at HS4
        have K4:=Lib.hid hb
        clear hb
        go_wp2_with fail
        refine HS4.out.mono ?_
        rintro e w4 ⟨rfl,hb4⟩
        have hB4:=below_lift3 hB3 hb4
        have hw4:=below_lift3 hw3 hb4
        clear x0 x1 y0 y1 y2 y3 y4
        obtain ⟨⟨x0,x1⟩,y0,y1,y2,y3,y4⟩:=HT.out w4 hB4
        have HS5:=Lib.hid (HFI.out w4 hw4)
        cases hb:bX
        ·rw [hb] at HS5
         have HR:=Lib.hid (show res=24 by rw [HD.out];simp [hb,K1.out,K2.out,K3.out,K4.out])
         clear hb
         go_wp2_with fail
         refine HS5.out.mono ?_
         rintro e w5 ⟨rfl,hb5⟩
         have hw5:=below_lift3 hw4 hb5
         go_wp2_with fail
         go_ret
         exact ⟨ret_int HR.out.symm,hw5⟩
        ·rw [hb] at HS5
         have K5:=Lib.hid hb
         clear hb
         go_wp2_with fail
         refine HS5.out.mono ?_
         rintro e w5 ⟨rfl,hb5⟩
         have hB5:=below_lift3 hB4 hb5
         have hw5:=below_lift3 hw4 hb5
         clear x0 x1 y0 y1 y2 y3 y4
         obtain ⟨⟨x0,x1⟩,y0,y1,y2,y3,y4⟩:=HT.out w5 hB5
         have HS6:=Lib.hid (HFA.out w5 hw5)
         cases hb:bF
         ·rw [hb] at HS6
          have HR:=Lib.hid (show res=25 by rw [HD.out];simp [hb,K1.out,K2.out,K3.out,K4.out,K5.out])
          clear hb
          go_wp2_with fail
          refine HS6.out.mono ?_
          rintro e w6 ⟨rfl,hb6⟩
          have hw6:=below_lift3 hw5 hb6
          go_wp2_with fail
          go_ret
          exact ⟨ret_int HR.out.symm,hw6⟩
         ·rw [hb] at HS6
          have K6:=Lib.hid hb
          clear hb
          go_wp2_with fail
          refine HS6.out.mono ?_
          rintro e w6 ⟨rfl,hb6⟩
          have hB6:=below_lift3 hB5 hb6
          have hw6:=below_lift3 hw5 hb6
          clear x0 x1 y0 y1 y2 y3 y4
          obtain ⟨⟨x0,x1⟩,y0,y1,y2,y3,y4⟩:=HT.out w6 hB6
          have HR:=Lib.hid (show res=0 by rw [HD.out];simp [K1.out,K2.out,K3.out,K4.out,K5.out,K6.out])
          go_wp2_with fail
          go_ret
          exact ⟨ret_int HR.out.symm,hw6⟩
   ·have g1:(ak == 1)=false:=by simpa using e1
    have g2:(ak == 2)=false:=by simpa using e2
    have g3:(ak == 3)=false:=by simpa using e3
    have g4:(ak != 1)=true:=by simpa using e1
    have g5:(ak != 2)=true:=by simpa using e2
    have g6:(ak != 3)=true:=by simpa using e3
    have HR:=Lib.hid (show res=8 by rw [HD.out,g1,g2,g3];simp)
    clear e1 e2 e3
    go_wp2_with fail
    go_ret
    exact ⟨ret_int HR.out.symm,hw0⟩
end Go.Proofs.YtmppmdmekomjbaaGreatDoor
namespace Go.Proofs.YtmppmdmekomjbaaGreatDoor
open Num
set_option linter.unusedVariables false
theorem fits_of {K:Nat} {p:LinL} {xs:List Str} (hw:wfL p) (hrn:∀ r ∈ p.rows,∀ n ∈ r.coef,fits n) (h:PrimR K p xs) (hK:K≤4096) (hk:1+p.cost.length*(21+K)≤4096):fitsB p xs=true:=by
 unfold fitsB
 simp only [Bool.and_eq_true,decide_eq_true_eq]
 refine ⟨⟨h.len,?_⟩,?_⟩
 ·rw [List.all_eq_true]
  intro z hz
  obtain ⟨i,hi,rfl⟩:=List.getElem_of_mem hz
  have hr:=(h.fr _ hz).right hK
  unfold posB
  rw [hr,Bool.true_and,decide_eq_true_eq]
  have h2:=h.pos i (by rw [← h.len];exact hi)
  rw [rat_get hi] at h2
  have h5:=signQ_rat hr
  by_cases h6:signQ xs[i]<0
  ·have:=h5.1.1 h6;grind
  ·omega
 ·rw [List.all_eq_true]
  intro r hr
  have hrl:=hw.1 r hr
  have t:=times_ok (K:=K) (show r.coef.length=xs.length by rw [h.len];exact hrl.1) (hrn r hr) h.fr hK (by rw [hrl.1];exact hk)
  unfold rowB
  simp only [Bool.and_eq_true,decide_eq_true_eq]
  refine ⟨t.1,holds_text (t.2.right (by rw [hrl.1];omega)) hrl.2 ?_⟩
  obtain ⟨i,hi,rfl⟩:=List.getElem_of_mem hr
  have h1:=h.hold i hi
  rw [rowAt_eq hi] at h1
  have ms:=(times_sum t.1).2.2
  rw [ms,hrl.1]
  exact h1
theorem falls_of {K:Nat} {p:LinL} {xs:List Str} (hw:wfL p) (hrn:∀ r ∈ p.rows,∀ n ∈ r.coef,fits n) (hkd:∀ r ∈ p.rows,r.kind=1∨r.kind=2∨r.kind=3) (h:RayR K p xs) (hK:K≤4096) (hk:1+p.cost.length*(21+K)≤4096):fallsB p xs=true:=by
 unfold fallsB nonneg
 simp only [Bool.and_eq_true,decide_eq_true_eq]
 have tc:=times_ok (K:=K) (ns:=p.cost) (xs:=xs) h.len.symm hw.2 h.fr hK hk
 have msc:=(times_sum tc.1).2.2
 refine ⟨⟨⟨?_,?_⟩,tc.1⟩,?_⟩
 ·rw [List.all_eq_true]
  intro z hz
  obtain ⟨i,hi,rfl⟩:=List.getElem_of_mem hz
  have hr:=(h.fr _ hz).right hK
  rw [decide_eq_true_eq]
  have h2:=h.pos i (by rw [← h.len];exact hi)
  rw [rat_get hi] at h2
  have h5:=signQ_rat hr
  by_cases h6:signQ xs[i]<0
  ·have:=h5.1.1 h6;grind
  ·omega
 ·rw [List.all_eq_true]
  intro r hr
  have hrl:=hw.1 r hr
  have t:=times_ok (K:=K) (show r.coef.length=xs.length by rw [h.len];exact hrl.1) (hrn r hr) h.fr hK (by rw [hrl.1];exact hk)
  unfold fallB
  simp only [Bool.and_eq_true,decide_eq_true_eq]
  refine ⟨t.1,?_⟩
  have hrt:=t.2.right (by rw [hrl.1];omega)
  have hs:=signQ_rat hrt
  obtain ⟨i,hi,rfl⟩:=List.getElem_of_mem hr
  have h1:=h.hold i hi
  rw [rowAt_eq hi] at h1
  have ms:=(times_sum t.1).2.2
  rw [hrl.1] at ms
  rw [← ms] at h1
  generalize (timesQ p.rows[i].coef xs).1=tt at *
  generalize signQ tt=sg at *
  unfold holdsR at h1
  unfold holdsB
  rcases hkd _ hr with k | k | k
  ·rw [if_pos k] at h1 ⊢
   have:¬ 0<sg:=fun h=>by have:=hs.2.1 h;grind
   simp;omega
  ·rw [if_neg (by omega),if_neg (by omega)] at h1 ⊢
   have h6:¬ 0<sg:=fun h=>by have:=hs.2.1 h;grind
   have h7:¬ sg<0:=fun h=>by have:=hs.1.1 h;grind
   simp;omega
  ·rw [if_neg (by omega),if_pos k] at h1 ⊢
   have:¬ sg<0:=fun h=>by have:=hs.1.1 h;grind
   simp;omega
 ·have hrt:=tc.2.right (by omega)
  have hs:=signQ_rat hrt
  rw [hs.1,msc]
  exact h.fall
theorem dual_of {K:Nat} {p:LinL} {lim:List Int} {ds:List Str} (hw:wfL p) (hrn:∀ r ∈ p.rows,∀ n ∈ r.coef,fits n) (hlim:∀ i,fits (lim.getD i 0)) (h:DualR K p lim ds) (hK:K≤4096) (hk:1+p.rows.length*(21+K)≤4096) :
  signsB p ds=true∧belowB p ds lim=true∧(timesQ (rightsL p) ds).2=0∧rightQ (timesQ (rightsL p) ds).1=true∧rq (timesQ (rightsL p) ds).1=rightR p ds:=by
 have hrl:(rightsL p).length=p.rows.length:=by unfold rightsL;rw [List.length_map]
 have hri:∀ n ∈ rightsL p,fits n:=fun n hn=>by
  unfold rightsL at hn
  obtain ⟨r,hr,rfl⟩:=List.mem_map.1 hn
  exact (hw.1 r hr).2
 have tr:=times_ok (K:=K) (ns:=rightsL p) (xs:=ds) (by rw [hrl,h.len]) hri h.fr hK (by rw [hrl];exact hk)
 have msr:=times_sum tr.1
 refine ⟨?_,?_,tr.1,msr.2.1,?_⟩
 ·unfold signsB
  simp only [Bool.and_eq_true,decide_eq_true_eq]
  refine ⟨h.len,?_⟩
  rw [List.all_eq_true]
  intro q hq
  obtain ⟨i,hi,rfl⟩:=List.getElem_of_mem hq
  rw [List.length_zip] at hi
  have hi1:i<p.rows.length:=by omega
  have hi2:i<ds.length:=by omega
  rw [List.getElem_zip]
  have h1:=h.sign i hi1
  rw [rowAt_eq hi1,rat_get hi2] at h1
  have hr:=(h.fr _ (List.getElem_mem hi2)).right hK
  have hs:=signQ_rat hr
  unfold signB
  unfold signR at h1
  simp only [Bool.and_eq_true,Bool.not_eq_true',Bool.and_eq_false_iff,decide_eq_false_iff_not]
  refine ⟨⟨hr,?_⟩,?_⟩
  ·by_cases k:p.rows[i].kind=1
   ·refine .inr fun hh=>?_
    have:=h1.1 k
    have:=hs.2.1 hh
    grind
   ·exact .inl k
  ·by_cases k:p.rows[i].kind=3
   ·refine .inr fun hh=>?_
    have:=h1.2 k
    have:=hs.1.1 hh
    grind
   ·exact .inl k
 ·unfold belowB
  rw [List.all_eq_true]
  intro i hi
  have hi:=List.mem_range.1 hi
  have hcl:(col p i).length=p.rows.length:=by unfold col;rw [List.length_map]
  have hcf:∀ n ∈ col p i,fits n:=fun n hn=>by
   unfold col at hn
   obtain ⟨r,hr,rfl⟩:=List.mem_map.1 hn
   rw [List.getD_eq_getElem?_getD]
   rcases Nat.lt_or_ge i r.coef.length with e | e
   ·rw [List.getElem?_eq_getElem e];exact hrn r hr _ (List.getElem_mem e)
   ·rw [List.getElem?_eq_none e];exact fits_zero
  have t:=times_ok (K:=K) (ns:=col p i) (xs:=ds) (by rw [hcl,h.len]) hcf h.fr hK (by rw [hcl];exact hk)
  unfold colB
  simp only [Bool.and_eq_true,decide_eq_true_eq]
  refine ⟨t.1,?_⟩
  have ms:=times_sum t.1
  rw [hcl,sumN_congr (g:=fun r=>(((Num.rowAt p r).coef.getD i 0:Int):Rat)*rat ds r) (fun r hr=>by rw [col_get hr])] at ms
  have hc:=cmpQ_rat ms.2.1 (rightQ_decI (hlim i))
  rw [rq_int,ms.2.2] at hc
  have h2:=h.below i hi
  by_cases e:0<cmpQ (timesQ (col p i) ds).1 (decI (lim.getD i 0))
  ·have:=hc.2.1 e;grind
  ·omega
 ·rw [msr.2.2,hrl]
  unfold rightR
  exact sumN_congr fun r hr=>by rw [rights_get hr]
theorem seven {n K:Nat} (hn:n≤7) (hK:7*K≤4095):1+n*K≤4096:=by have:=Nat.mul_le_mul_right K hn;omega
theorem all_right {K:Nat} {xs:List Str} (h:∀ x ∈ xs,FrT K x) (hK:K≤4096):xs.all rightQ=true:=List.all_eq_true.2 fun x hx=>(h x hx).right hK
theorem cost_fits2 {p:LinL} (hw:wfL p) (i:Nat):fits (p.cost.getD i 0):=cost_fits hw i
theorem chk_ok {D:Nat} {p:LinL} {a:AnsL} (hw:wfL p) (hrn:∀ r ∈ p.rows,∀ n ∈ r.coef,fits n) (hkd:∀ r ∈ p.rows,r.kind=1∨r.kind=2∨r.kind=3) (hn:p.cost.length≤7) (hm:p.rows.length≤7) (hD:D≤550) (h:AnsR D p a) :
  chkA p p.rows.length a=0∧((a.kind=1∧fitsB p a.X=true∧provedB p a=true)∨(a.kind=2∧refutesB p a.dual=true)∨(a.kind=3∧fitsB p a.X=true∧fallsB p a.ray=true)):=by
 have k1:1+p.cost.length*(21+255)≤4096:=seven hn (by decide)
 have k2:1+p.cost.length*(21+257)≤4096:=seven hn (by decide)
 have k3:1+p.rows.length*(21+(D+4))≤4096:=seven hm (by omega)
 rcases h with ⟨e,hr,hP,hDu,ht,hv⟩ | ⟨e,hX,hr,hv,hDu,h0⟩ | ⟨e,hd,hv,hP,hR⟩
 ·have f1:=fits_of hw hrn hP (by omega) k1
  have hd1:=dual_of hw hrn (cost_fits2 hw) hDu (by omega) k3
  have tm:=times_ok (K:=255) (ns:=p.cost) (xs:=a.X) hP.len.symm hw.2 hP.fr (by omega) k1
  have hrv:rightQ a.value=true:=by have:=tm.2.right k1;rw [ht] at this;exact this
  have hpb:provesB p a.dual=true:=by unfold provesB;simp [hd1.1,hd1.2.1,hd1.2.2.1]
  have hps:provesS p a.dual=a.value:=by
   unfold provesS
   rw [if_pos hpb]
   refine rq_inj hd1.2.2.2.1 hrv ?_
   rw [hd1.2.2.2.2,hv]
   have:=(times_sum tm.1).2.2
   rw [ht] at this
   exact this.symm
  have f2:provedB p a=true:=by unfold provedB;simp [hpb,hps,ht]
  have r1:=all_right hP.fr (by omega)
  have r2:=all_right hDu.fr (by omega)
  refine ⟨?_,.inl ⟨e,f1,f2⟩⟩
  unfold chkA sizesB
  rw [r1,r2,f1,f2,hrv,e,hr,hP.len,hDu.len]
  simp
 ·have hd1:=dual_of (lim:=[]) hw hrn (fun i=>by simpa using fits_zero) hDu (by omega) k3
  have f2:refutesB p a.dual=true:=by
   unfold refutesB
   simp only [Bool.and_eq_true,decide_eq_true_eq]
   refine ⟨⟨⟨hd1.1,hd1.2.1⟩,hd1.2.2.1⟩,?_⟩
   rw [(signQ_rat hd1.2.2.2.1).2,hd1.2.2.2.2]
   exact h0
  have r2:=all_right hDu.fr (by omega)
  refine ⟨?_,.inr (.inl ⟨e,f2⟩)⟩
  unfold chkA sizesB
  rw [r2,f2,e,hr,hX,hDu.len,hv]
  simp
 ·have f1:=fits_of hw hrn hP (by omega) k1
  have f2:=falls_of hw hrn hkd hR (by omega) k2
  have r1:=all_right hP.fr (by omega)
  have r3:=all_right hR.fr (by omega)
  refine ⟨?_,.inr (.inr ⟨e,f1,f2⟩)⟩
  unfold chkA sizesB
  rw [r1,r3,f1,f2,e,hd,hP.len,hR.len,hv]
  simp
end Go.Proofs.YtmppmdmekomjbaaGreatDoor
namespace Go.Proofs.YtmppmdmekomjbaaGreatDoor
open Go.RowKit Num
set_option linter.unusedVariables false
attribute [local go_sem] B_size B_get B_toList B_mk B_extract B_append
attribute [local go_sem high] run_max2
theorem cells_row {w:World} {g:Nat} {cs:Array Value} {vs:List Value} {t:TypeId} (h:w.heap[g]? = some (.cells cs t)) (e:cs=vs.toArray):Cells w (some ⟨g,0,none⟩) vs:=by
 intro _
 refine ⟨g,0,rfl,?_,fun j u hu=>?_⟩
 ·rcases Nat.lt_or_ge g w.heap.size with h1 | h1
  ·exact h1
  ·rw [Array.getElem?_eq_none h1] at h;exact absurd h (by simp)
 ·rw [Nat.zero_add,cell_of_row w g j _ _ _ h,e];simpa using hu
def rcells (rs:List RowV):List Value:=rs.flatMap fun r=>[.slice r.A r.L.coef.length r.c,.int .i64 r.L.kind,.int .i64 r.L.right]
theorem rcells_get (rs:List RowV) (i:Nat) (h:i<rs.length):(rcells rs)[i*3]? = some (.slice rs[i].A rs[i].L.coef.length rs[i].c)∧(rcells rs)[i*3+1]? = some (.int .i64 rs[i].L.kind)∧(rcells rs)[i*3+2]? = some (.int .i64 rs[i].L.right):=by
 induction rs generalizing i with
 | nil=>exact absurd h (by simp)
 | cons r rs ih =>
  cases i with
  | zero=>exact ⟨rfl,rfl,rfl⟩
  | succ i =>
   have:=ih i (by simpa using h)
   rw [show (i+1)*3=i*3+1+1+1 by omega]
   exact this
theorem rows_row {w:World} {g:Nat} {cs:Array Value} {rs:List RowV} {t:TypeId} (h:w.heap[g]? = some (.cells cs t)) (e:cs=(rcells rs).toArray) (hr:∀ r ∈ rs,Cells w r.A (ints r.L.coef)):RowsAt w (some ⟨g,0,none⟩) rs:=by
 refine ⟨fun _=>⟨g,0,rfl,?_,fun i hi=>?_⟩,hr⟩
 ·rcases Nat.lt_or_ge g w.heap.size with h1 | h1
  ·exact h1
  ·rw [Array.getElem?_eq_none h1] at h;exact absurd h (by simp)
 ·have:=rcells_get rs i hi
  rw [Nat.zero_add,cell_of_row w g _ _ _ _ h,cell_of_row w g _ _ _ _ h,cell_of_row w g _ _ _ _ h,e]
  simpa using this
theorem ok_of {r:RowV} (h1:r.L.coef.length≤r.c) (h2:r.c≤1000) (h3:r.L.coef.all (fun n=>decide (fits n))=true) (h4:fits r.L.kind) (h5:fits r.L.right):r.ok :=
 ⟨h1,by unfold maxLen;omega,fun n hn=>by simpa using List.all_eq_true.1 h3 n hn,h4,h5⟩
theorem fits_small {z:Int} (h:-1000≤z∧z≤1000):fits z:=by constructor <;> omega
end Go.Proofs.YtmppmdmekomjbaaGreatDoor
namespace Go.Proofs.YtmppmdmekomjbaaGreatDoor
open Go.RowKit Num
set_option linter.unusedVariables false
attribute [local go_sem] B_size B_get B_toList B_mk B_extract B_append
attribute [local go_sem high] run_max2
end Go.Proofs.YtmppmdmekomjbaaGreatDoor
namespace Go.Proofs.YtmppmdmekomjbaaGreatDoor
open Go.RowKit Num
set_option linter.unusedVariables false
attribute [local go_sem] B_size B_get B_toList B_mk B_extract B_append
attribute [local go_sem high] run_max2
theorem fault_at {w:World} {Bs:Nat} {F:Option Addr} {c:Nat} {l:List (Int × Str)} {k:Nat} (h:OwnR w Bs 52 2 F l.length c (fcells l)) (hk:k<l.length) :
  ∃ g,F=some ⟨g,0,none⟩∧w.cell? ⟨g,k*2,none⟩=some (.int .i64 l[k].1)∧w.cell? ⟨g,k*2+1,none⟩=some (.string (B l[k].2)):=by
 obtain ⟨g,rfl,_,_,hc,_⟩:=h.at_ (by omega)
 have:=fcells_get l k hk
 exact ⟨g,rfl,by rw [hc _ (by omega)];exact this.1,by rw [hc _ (by omega)];exact this.2⟩
end Go.Proofs.YtmppmdmekomjbaaGreatDoor
namespace Go.Proofs.YtmppmdmekomjbaaGreatDoor
open Go.RowKit Num
set_option linter.unusedVariables false
attribute [local go_sem] B_size B_get B_toList B_mk B_extract B_append
attribute [local go_sem high] run_max2
end Go.Proofs.YtmppmdmekomjbaaGreatDoor
namespace Go.Proofs.YtmppmdmekomjbaaGreatDoor
open Go.RowKit Num
set_option linter.unusedVariables false
attribute [local go_sem] B_size B_get B_toList B_mk B_extract B_append
attribute [local go_sem high] run_max2
theorem rlval_any (cost:List Int) (rs:List RowV) (A:Option Addr) (ca:Nat) (R:Option Addr) (cr:Nat) (xs:List Str) (X:Option Addr) (cx:Nat) (w:World) (hp:LinAt w cost rs A ca R cr) (hx:RatsAt w xs X cx) :
  Calls Tryz.prog 17 #[linV A cost.length ca R rs.length cr,.slice X xs.length cx] w fun e w'=>e=.returned (.tuple #[.string (B (timesQ cost xs).1),.int .i64 (timesQ cost xs).2])∧Below w.heap.size w w':=by
 have hla:=hp.la
 have hlx:=hx.lx
 have b0:=new_below w (linO A cost.length ca R rs.length cr)
 have HT:=Lib.hid (rqtimes_any cost xs A X ca cx _ (hp.cells.below b0) (hx.cells.below b0) (by omega) (by omega) hp.fit hx.len)
 generalize timesQ cost xs=v at *
 clear hp hx
 go_enter Tryz.func17,Tryz.ntmps17
 simp only [B_mk]
 go_wp2_with fail
 refine HT.out.mono ?_
 rintro e w1 ⟨rfl,hb1⟩
 go_wp2_with fail
 go_ret2
 exact ⟨rfl,b0.trans (hb1.mono b0.size)⟩
set_option maxRecDepth 100000 in
theorem rlleft_any (cost:List Int) (rs:List RowV) (A:Option Addr) (ca:Nat) (R:Option Addr) (cr:Nat) (i:Int) (xs:List Str) (X:Option Addr) (cx:Nat) (w:World) (hi:fits i) (hp:LinAt w cost rs A ca R cr) (hx:RatsAt w xs X cx) :
  Calls Tryz.prog 55 #[linV A cost.length ca R rs.length cr,.int .i64 i,.slice X xs.length cx] w fun e w'=>e=.returned (.tuple #[.string (B (leftQ (linOf cost rs) i xs).1),.int .i64 (leftQ (linOf cost rs) i xs).2])∧Below w.heap.size w w':=by
 have hlr:=hp.lr
 have hlx:=hx.lx
 have b0:=new_below w (linO A cost.length ca R rs.length cr)
 by_cases h1:i<0
 ·rw [show leftQ (linOf cost rs) i xs=([],7) from if_neg (fun h=>by omega)]
  clear hp hx
  go_enter Tryz.func55,Tryz.ntmps55
  simp only [B_mk]
  go_wp2_with fail
  go_ret2
  exact ⟨rfl,b0⟩
 by_cases h2:i<(rs.length:Int)
 ·obtain ⟨k,rfl⟩:∃ k:Nat,i=(k:Int):=⟨i.toNat,by omega⟩
  have hk:k<rs.length:=by omega
  have HV:=Lib.hid (show leftQ (linOf cost rs) (k:Int) xs=timesQ rs[k].L.coef xs by
   unfold leftQ;rw [if_pos ⟨by omega,by rw [lin_rows];omega⟩,Int.toNat_natCast,lin_rowAt _ _ _ hk])
  rw [HV.out]
  obtain ⟨b,off,rfl,hbl,hc⟩:=hp.rows.at (by omega)
  have hc0:=(b0.cell (p:=⟨b,off+k*3,none⟩) hbl).trans (hc k hk).1
  have hok:=hp.ok rs[k] (List.getElem_mem hk)
  have hcl:=(hp.rows.2 rs[k] (List.getElem_mem hk)).below b0
  have hrl:rs[k].L.coef.length≤maxLen:=Nat.le_trans hok.1 hok.2.1
  have HT:=Lib.hid (rqtimes_any rs[k].L.coef xs rs[k].A X rs[k].c cx _ hcl (hx.cells.below b0) hrl (by omega) hok.2.2.1 hx.len)
  generalize timesQ rs[k].L.coef xs=v at *
  generalize rs[k]=r at *
  clear hp hx hc hcl hok HV
  go_enter Tryz.func55,Tryz.ntmps55
  simp only [B_mk]
  go_wp2_with fail
  refine HT.out.mono ?_
  rintro e w1 ⟨rfl,hb1⟩
  go_wp2_with fail
  go_ret2
  exact ⟨rfl,b0.trans (hb1.mono b0.size)⟩
 ·rw [show leftQ (linOf cost rs) i xs=([],7) from if_neg (fun h=>by rw [lin_rows] at h;omega)]
  clear hp hx
  go_enter Tryz.func55,Tryz.ntmps55
  simp only [B_mk]
  go_wp2_with fail
  go_ret2
  exact ⟨rfl,b0⟩
set_option maxHeartbeats 4000000 in
set_option maxRecDepth 100000 in
theorem rlfits_any (cost:List Int) (rs:List RowV) (A:Option Addr) (ca:Nat) (R:Option Addr) (cr:Nat) (xs:List Str) (X:Option Addr) (cx:Nat) (w:World) (hp:LinAt w cost rs A ca R cr) (hx:RatsAt w xs X cx) :
  Calls Tryz.prog 16 #[linV A cost.length ca R rs.length cr,.slice X xs.length cx] w fun e w'=>e=.returned (.bool (fitsB (linOf cost rs) xs))∧Below w.heap.size w w':=by
 have hla:=hp.la
 have hlr:=hp.lr
 have hlx:=hx.lx
 unfold maxLen at hla hlr hlx
 have b0:=new_below w (linO A cost.length ca R rs.length cr)
 have HP:=Lib.hid hp
 have HX:=Lib.hid hx
 clear hp hx
 by_cases heq:xs.length=cost.length
 ·have HE:=Lib.hid heq
  have hq:((xs.length:Int) != (cost.length:Int))=false:=by rw [heq];simp
  clear heq
  have HBW:=Lib.hid (fun wr (h:Below (w.alloc (linO A cost.length ca R rs.length cr)).heap.size (w.alloc (linO A cost.length ca R rs.length cr)) wr)=>b0.trans (h.mono b0.size))
  go_enter Tryz.func16,Tryz.ntmps16
  go_wp2_with fail
  go_loopw [4,5] (fun _ i wr=>∃ k:Nat,k≤xs.length∧i=.int .i64 k∧(xs.take k).all posB=true∧Below (w.alloc (linO A cost.length ca R rs.length cr)).heap.size (w.alloc (linO A cost.length ca R rs.length cr)) wr) (fun _ i _=>xs.length - (intOf i).toNat)
  case atStart=>exact ⟨0,Nat.zero_le _,rfl,rfl,Below.refl _ _⟩
  case round =>
   obtain ⟨k,hk,rfl,hall,hbel0⟩:=hrel
   have HALL:=Lib.hid hall
   clear hall
   have hbel:=HBW.out wr hbel0
   by_cases hlt:k<xs.length
   ·obtain ⟨bA,oA,rfl,hbA,hcA⟩:=HX.out.cells.at (by rw [strs_length];omega)
    have HC:=Lib.hid (fun (w':World) (h:Below w.heap.size w w')=>(show w'.cell? ⟨bA,oA+k,none⟩=some (.string (B xs[k])) by
     rw [h.cell (p:=⟨bA,oA+k,none⟩) hbA,hcA k (by rw [strs_length];exact hlt)];simp [strs]))
    clear hcA
    have hxl:=HX.out.len xs[k] (List.getElem_mem hlt)
    have HR:=Lib.hid (fun (w:World)=>rrq_any xs[k] w (by omega))
    have HS:=Lib.hid (fun (w:World)=>rqsign_any xs[k] w (by omega))
    have HT:=Lib.hid (fun h=>all_take (f:=posB) hlt HALL.out h)
    have HB:=Lib.hid (fun h=>all_bad (f:=posB) hlt h)
    generalize xs[k]=x at *
    have hld:=HC.out wr hbel
    cases hr:rightQ x
    ·rw [hr] at HR
     have HV:=Lib.hid (show fitsB (linOf cost rs) xs=false by unfold fitsB;rw [HB.out (by unfold posB;rw [hr];rfl)];simp)
     go_wp2_with fail
     refine (HR.out wr).mono ?_
     rintro e w1 ⟨rfl,hb1⟩
     go_wp2_with fail
     go_ret
     exact ⟨ret_bool HV.out.symm,hbel.trans (hb1.mono hbel.size)⟩
    ·rw [hr] at HR
     by_cases hs:signQ x<0
     ·have HV:=Lib.hid (show fitsB (linOf cost rs) xs=false by unfold fitsB;rw [HB.out (by unfold posB;rw [hr];simp;omega)];simp)
      generalize signQ x=sg at *
      go_wp2_with fail
      refine (HR.out wr).mono ?_
      rintro e w1 ⟨rfl,hb1⟩
      have a1:=hbel.trans (hb1.mono hbel.size)
      have hld1:=HC.out w1 a1
      go_wp2_with fail
      refine (HS.out w1).mono ?_
      rintro e w2 ⟨rfl,hb2⟩
      go_wp2_with fail
      go_ret
      exact ⟨ret_bool HV.out.symm,a1.trans (hb2.mono a1.size)⟩
     ·have HV:=Lib.hid (HT.out (by unfold posB;rw [hr];simp;omega))
      generalize signQ x=sg at *
      go_wp2_with fail
      refine (HR.out wr).mono ?_
      rintro e w1 ⟨rfl,hb1⟩
      have a1:=hbel.trans (hb1.mono hbel.size)
      have hld1:=HC.out w1 a1
      go_wp2_with fail
      refine (HS.out w1).mono ?_
      rintro e w2 ⟨rfl,hb2⟩
      go_wp2_with fail
      go_roundw
      case rel=>exact ⟨k+1,by omega,by go_num,HV.out,(hbel0.trans (hb1.mono hbel0.size)).trans (hb2.mono (Nat.le_trans hbel0.size hb1.size))⟩
      case measure=>simp [intOf];omega
   ·have hkx:k=xs.length:=by omega
    have HPOS:=Lib.hid (show xs.all posB=true by have:=HALL.out;rwa [hkx,List.take_length] at this)
    have HV:=Lib.hid (show fitsB (linOf cost rs) xs=rs.all (fun r=>rowB r.L xs) by unfold fitsB;rw [HPOS.out,fits_rows,show decide (xs.length=(linOf cost rs).cost.length)=true by simp [linOf,HE.out]];simp)
    clear HALL hkx
    go_wp2_with fail
    go_loopw [4,6,7,8,9] (fun _ i _ _ _ wr=>∃ j:Nat,j≤rs.length∧i=.int .i64 j∧(rs.take j).all (fun r=>rowB r.L xs)=true∧Below (w.alloc (linO A cost.length ca R rs.length cr)).heap.size (w.alloc (linO A cost.length ca R rs.length cr)) wr) (fun _ i _ _ _ _=>rs.length - (intOf i).toNat)
    case atStart=>exact ⟨0,Nat.zero_le _,rfl,rfl,hbel0⟩
    case round =>
     clear hbel hbel0 hk hlt
     obtain ⟨j,hj,rfl,hall,hbel0⟩:=hrel
     have HALL:=Lib.hid hall
     clear hall
     have hbel:=HBW.out wr hbel0
     by_cases hlt:j<rs.length
     ·obtain ⟨bR,oR,rfl,hbR,hcR⟩:=HP.out.rows.at (by omega)
      have HC:=Lib.hid (fun (w':World) (h:Below w.heap.size w w')=>(show w'.cell? ⟨bR,oR+j*3+1,none⟩=some (.int .i64 rs[j].L.kind)∧w'.cell? ⟨bR,oR+j*3+2,none⟩=some (.int .i64 rs[j].L.right) from
       ⟨(h.cell (p:=⟨bR,oR+j*3+1,none⟩) hbR).trans (hcR j hlt).2.1,(h.cell (p:=⟨bR,oR+j*3+2,none⟩) hbR).trans (hcR j hlt).2.2⟩))
      clear hcR
      have HLV:=Lib.hid (show leftQ (linOf cost rs) (j:Int) xs=timesQ rs[j].L.coef xs by
       unfold leftQ;rw [if_pos ⟨by omega,by rw [lin_rows];omega⟩,Int.toNat_natCast,lin_rowAt _ _ _ hlt])
      have HL:=Lib.hid (fun (w:World) (hp:LinAt w cost rs A ca (some ⟨bR,oR,none⟩) cr) (hx:RatsAt w xs X cx)=>rlleft_any cost rs A ca (some ⟨bR,oR,none⟩) cr (j:Int) xs X cx w (by constructor <;> omega) hp hx)
      rw [HLV.out] at HL
      have hok:=HP.out.ok rs[j] (List.getElem_mem hlt)
      have HT:=Lib.hid (fun h=>all_take (f:=fun r:RowV=>rowB r.L xs) hlt HALL.out h)
      have HB:=Lib.hid (fun h=>all_bad (f:=fun r:RowV=>rowB r.L xs) hlt h)
      have HRW:=Lib.hid (show rowB rs[j].L xs=(decide ((timesQ rs[j].L.coef xs).2=0) && holdsB rs[j].L.kind (cmpQ (timesQ rs[j].L.coef xs).1 (decI rs[j].L.right))) from rfl)
      have hvl:=times_len rs[j].L.coef xs
      generalize timesQ rs[j].L.coef xs=v at *
      obtain ⟨v1,v2⟩:=v
      have hvl1:v1.length≤8194:=hvl
      clear hvl
      generalize rs[j]=r at *
      have hfr:=hok.2.2.2.2
      have hdl:=fits_len hfr
      clear hok
      have HO:=Lib.hid (fun (w:World)=>rqof_any r.L.right w hfr)
      have HCM:=Lib.hid (fun (w:World)=>rqcmp_any v1 (decI r.L.right) w (by omega) (by omega))
      generalize cmpQ v1 (decI r.L.right)=c at *
      obtain ⟨d0,d1,d2⟩:=lin_cells hbel0
      by_cases hv:v2=0
      ·subst hv
       by_cases kk1:r.L.kind=1
       ·have t1:(r.L.kind != 1)=false:=by rw [kk1];rfl
        have t3:(r.L.kind != 3)=true:=by rw [kk1];rfl
        by_cases hc:0<c
        ·skip
         have HBB:=Lib.hid (show fitsB (linOf cost rs) xs=false by rw [HV.out,HB.out (by rw [HRW.out];unfold holdsB;rw [if_pos kk1];simp;omega)])
         clear kk1
         go_wp2_with fail
         refine (HL.out wr (HP.out.below hbel) (HX.out.below hbel)).mono ?_
         rintro e w1 ⟨rfl,hb1⟩
         have c1:=hbel0.trans (hb1.mono hbel0.size)
         have a1:=HBW.out _ c1
         clear d0 d1 d2
         obtain ⟨d0,d1,d2⟩:=lin_cells c1
         have k1c:=HC.out _ a1
         obtain ⟨k1a,k1b⟩:=k1c
         go_wp2_with fail
         refine (HO.out _).mono ?_
         rintro e w2 ⟨rfl,hb2⟩
         have c2:=c1.trans (hb2.mono c1.size)
         go_wp2_with fail
         refine (HCM.out _).mono ?_
         rintro e w3 ⟨rfl,hb3⟩
         have c3:=c2.trans (hb3.mono c2.size)
         have a3:=HBW.out _ c3
         clear d0 d1 d2 k1a k1b
         obtain ⟨d0,d1,d2⟩:=lin_cells c3
         have k3c:=HC.out _ a3
         obtain ⟨k3a,k3b⟩:=k3c
         go_wp2_with fail
         go_ret
         exact ⟨ret_bool HBB.out.symm,a3⟩
        ·skip
         have HBB:=Lib.hid (HT.out (by rw [HRW.out];unfold holdsB;rw [if_pos kk1];simp;omega))
         clear kk1
         go_wp2_with fail
         refine (HL.out wr (HP.out.below hbel) (HX.out.below hbel)).mono ?_
         rintro e w1 ⟨rfl,hb1⟩
         have c1:=hbel0.trans (hb1.mono hbel0.size)
         have a1:=HBW.out _ c1
         clear d0 d1 d2
         obtain ⟨d0,d1,d2⟩:=lin_cells c1
         have k1c:=HC.out _ a1
         obtain ⟨k1a,k1b⟩:=k1c
         go_wp2_with fail
         refine (HO.out _).mono ?_
         rintro e w2 ⟨rfl,hb2⟩
         have c2:=c1.trans (hb2.mono c1.size)
         go_wp2_with fail
         refine (HCM.out _).mono ?_
         rintro e w3 ⟨rfl,hb3⟩
         have c3:=c2.trans (hb3.mono c2.size)
         have a3:=HBW.out _ c3
         clear d0 d1 d2 k1a k1b
         obtain ⟨d0,d1,d2⟩:=lin_cells c3
         have k3c:=HC.out _ a3
         obtain ⟨k3a,k3b⟩:=k3c
         go_wp2_with fail
         go_roundw
         case rel=>exact ⟨j+1,by omega,by go_num,HBB.out,c3⟩
         case measure=>simp [intOf];omega
       ·have t1:(r.L.kind != 1)=true:=by simpa using kk1
        by_cases kk3:r.L.kind=3
        ·have t3:(r.L.kind != 3)=false:=by rw [kk3];rfl
         by_cases hc:c<0
         ·skip
          have HBB:=Lib.hid (show fitsB (linOf cost rs) xs=false by rw [HV.out,HB.out (by rw [HRW.out];unfold holdsB;rw [if_neg kk1,if_pos kk3];simp;omega)])
          clear kk1 kk3
          go_wp2_with fail
          refine (HL.out wr (HP.out.below hbel) (HX.out.below hbel)).mono ?_
          rintro e w1 ⟨rfl,hb1⟩
          have c1:=hbel0.trans (hb1.mono hbel0.size)
          have a1:=HBW.out _ c1
          clear d0 d1 d2
          obtain ⟨d0,d1,d2⟩:=lin_cells c1
          have k1c:=HC.out _ a1
          obtain ⟨k1a,k1b⟩:=k1c
          go_wp2_with fail
          refine (HO.out _).mono ?_
          rintro e w2 ⟨rfl,hb2⟩
          have c2:=c1.trans (hb2.mono c1.size)
          go_wp2_with fail
          refine (HCM.out _).mono ?_
          rintro e w3 ⟨rfl,hb3⟩
          have c3:=c2.trans (hb3.mono c2.size)
          have a3:=HBW.out _ c3
          clear d0 d1 d2 k1a k1b
          obtain ⟨d0,d1,d2⟩:=lin_cells c3
          have k3c:=HC.out _ a3
          obtain ⟨k3a,k3b⟩:=k3c
          go_wp2_with fail
          go_ret
          exact ⟨ret_bool HBB.out.symm,a3⟩
         ·skip
          have HBB:=Lib.hid (HT.out (by rw [HRW.out];unfold holdsB;rw [if_neg kk1,if_pos kk3];simp;omega))
          clear kk1 kk3
          go_wp2_with fail
          refine (HL.out wr (HP.out.below hbel) (HX.out.below hbel)).mono ?_
          rintro e w1 ⟨rfl,hb1⟩
          have c1:=hbel0.trans (hb1.mono hbel0.size)
          have a1:=HBW.out _ c1
          clear d0 d1 d2
          obtain ⟨d0,d1,d2⟩:=lin_cells c1
          have k1c:=HC.out _ a1
          obtain ⟨k1a,k1b⟩:=k1c
          go_wp2_with fail
          refine (HO.out _).mono ?_
          rintro e w2 ⟨rfl,hb2⟩
          have c2:=c1.trans (hb2.mono c1.size)
          go_wp2_with fail
          refine (HCM.out _).mono ?_
          rintro e w3 ⟨rfl,hb3⟩
          have c3:=c2.trans (hb3.mono c2.size)
          have a3:=HBW.out _ c3
          clear d0 d1 d2 k1a k1b
          obtain ⟨d0,d1,d2⟩:=lin_cells c3
          have k3c:=HC.out _ a3
          obtain ⟨k3a,k3b⟩:=k3c
          go_wp2_with fail
          go_roundw
          case rel=>exact ⟨j+1,by omega,by go_num,HBB.out,c3⟩
          case measure=>simp [intOf];omega
        ·have t3:(r.L.kind != 3)=true:=by simpa using kk3
         by_cases hc:0<c
         ·skip
          have HBB:=Lib.hid (show fitsB (linOf cost rs) xs=false by rw [HV.out,HB.out (by rw [HRW.out];unfold holdsB;rw [if_neg kk1,if_neg kk3];simp;omega)])
          clear kk1 kk3
          go_wp2_with fail
          refine (HL.out wr (HP.out.below hbel) (HX.out.below hbel)).mono ?_
          rintro e w1 ⟨rfl,hb1⟩
          have c1:=hbel0.trans (hb1.mono hbel0.size)
          have a1:=HBW.out _ c1
          clear d0 d1 d2
          obtain ⟨d0,d1,d2⟩:=lin_cells c1
          have k1c:=HC.out _ a1
          obtain ⟨k1a,k1b⟩:=k1c
          go_wp2_with fail
          refine (HO.out _).mono ?_
          rintro e w2 ⟨rfl,hb2⟩
          have c2:=c1.trans (hb2.mono c1.size)
          go_wp2_with fail
          refine (HCM.out _).mono ?_
          rintro e w3 ⟨rfl,hb3⟩
          have c3:=c2.trans (hb3.mono c2.size)
          have a3:=HBW.out _ c3
          clear d0 d1 d2 k1a k1b
          obtain ⟨d0,d1,d2⟩:=lin_cells c3
          have k3c:=HC.out _ a3
          obtain ⟨k3a,k3b⟩:=k3c
          go_wp2_with fail
          go_ret
          exact ⟨ret_bool HBB.out.symm,a3⟩
         ·by_cases hc2:c<0
          ·skip
           have HBB:=Lib.hid (show fitsB (linOf cost rs) xs=false by rw [HV.out,HB.out (by rw [HRW.out];unfold holdsB;rw [if_neg kk1,if_neg kk3];simp;omega)])
           clear kk1 kk3
           go_wp2_with fail
           refine (HL.out wr (HP.out.below hbel) (HX.out.below hbel)).mono ?_
           rintro e w1 ⟨rfl,hb1⟩
           have c1:=hbel0.trans (hb1.mono hbel0.size)
           have a1:=HBW.out _ c1
           clear d0 d1 d2
           obtain ⟨d0,d1,d2⟩:=lin_cells c1
           have k1c:=HC.out _ a1
           obtain ⟨k1a,k1b⟩:=k1c
           go_wp2_with fail
           refine (HO.out _).mono ?_
           rintro e w2 ⟨rfl,hb2⟩
           have c2:=c1.trans (hb2.mono c1.size)
           go_wp2_with fail
           refine (HCM.out _).mono ?_
           rintro e w3 ⟨rfl,hb3⟩
           have c3:=c2.trans (hb3.mono c2.size)
           have a3:=HBW.out _ c3
           clear d0 d1 d2 k1a k1b
           obtain ⟨d0,d1,d2⟩:=lin_cells c3
           have k3c:=HC.out _ a3
           obtain ⟨k3a,k3b⟩:=k3c
           go_wp2_with fail
           go_ret
           exact ⟨ret_bool HBB.out.symm,a3⟩
          ·skip
           have HBB:=Lib.hid (HT.out (by rw [HRW.out];unfold holdsB;rw [if_neg kk1,if_neg kk3];simp;omega))
           clear kk1 kk3
           go_wp2_with fail
           refine (HL.out wr (HP.out.below hbel) (HX.out.below hbel)).mono ?_
           rintro e w1 ⟨rfl,hb1⟩
           have c1:=hbel0.trans (hb1.mono hbel0.size)
           have a1:=HBW.out _ c1
           clear d0 d1 d2
           obtain ⟨d0,d1,d2⟩:=lin_cells c1
           have k1c:=HC.out _ a1
           obtain ⟨k1a,k1b⟩:=k1c
           go_wp2_with fail
           refine (HO.out _).mono ?_
           rintro e w2 ⟨rfl,hb2⟩
           have c2:=c1.trans (hb2.mono c1.size)
           go_wp2_with fail
           refine (HCM.out _).mono ?_
           rintro e w3 ⟨rfl,hb3⟩
           have c3:=c2.trans (hb3.mono c2.size)
           have a3:=HBW.out _ c3
           clear d0 d1 d2 k1a k1b
           obtain ⟨d0,d1,d2⟩:=lin_cells c3
           have k3c:=HC.out _ a3
           obtain ⟨k3a,k3b⟩:=k3c
           go_wp2_with fail
           go_roundw
           case rel=>exact ⟨j+1,by omega,by go_num,HBB.out,c3⟩
           case measure=>simp [intOf];omega
      ·have hv1:(v2 != 0)=true:=by simpa using hv
       have HBB:=Lib.hid (show fitsB (linOf cost rs) xs=false by rw [HV.out,HB.out (by rw [HRW.out];simp [hv])])
       clear hv
       go_wp2_with fail
       refine (HL.out wr (HP.out.below hbel) (HX.out.below hbel)).mono ?_
       rintro e w1 ⟨rfl,hb1⟩
       have c1:=hbel0.trans (hb1.mono hbel0.size)
       have a1:=HBW.out _ c1
       clear d0 d1 d2
       obtain ⟨d0,d1,d2⟩:=lin_cells c1
       have k1c:=HC.out _ a1
       obtain ⟨k1a,k1b⟩:=k1c
       go_wp2_with fail
       refine (HO.out _).mono ?_
       rintro e w2 ⟨rfl,hb2⟩
       have c2:=c1.trans (hb2.mono c1.size)
       go_wp2_with fail
       refine (HCM.out _).mono ?_
       rintro e w3 ⟨rfl,hb3⟩
       have c3:=c2.trans (hb3.mono c2.size)
       have a3:=HBW.out _ c3
       clear d0 d1 d2 k1a k1b
       obtain ⟨d0,d1,d2⟩:=lin_cells c3
       have k3c:=HC.out _ a3
       obtain ⟨k3a,k3b⟩:=k3c
       go_wp2_with fail
       go_ret
       exact ⟨ret_bool HBB.out.symm,a3⟩
     ·have hjx:j=rs.length:=by omega
      have HA:=Lib.hid (show fitsB (linOf cost rs) xs=true by rw [HV.out];have:=HALL.out;rwa [hjx,List.take_length] at this)
      clear hjx
      obtain ⟨d0,d1,d2⟩:=lin_cells hbel0
      go_wp2_with fail
      go_ret
      exact ⟨ret_bool HA.out.symm,hbel⟩
 ·have hne:((xs.length:Int) != (cost.length:Int))=true:=by rw [bne_iff_ne];omega
  have HV:=Lib.hid (show fitsB (linOf cost rs) xs=false by unfold fitsB;rw [show decide (xs.length=(linOf cost rs).cost.length)=false by simp [linOf,heq]];rfl)
  clear heq
  go_enter Tryz.func16,Tryz.ntmps16
  go_wp2_with fail
  go_ret
  exact ⟨ret_bool HV.out.symm,b0⟩
def tinyZ (z:Int):Bool:=decide (-100≤z) && decide (z≤100)
def tinyB (l:List Int):Bool:=l.all tinyZ
def fewR (r:RowL):Bool:=decide (r.coef.length≤9) && tinyB r.coef && tinyB [r.right]
def fewB (cost:List Int) (rs:List RowV):Bool:=decide (cost.length≤7) && decide (rs.length≤7) && tinyB cost && rs.all (fun r=>fewR r.L)
set_option maxHeartbeats 1000000 in
set_option maxRecDepth 100000 in
theorem tiny_any (l:List Int) (A:Option Addr) (c:Nat) (w:World) (hA:Cells w A (ints l)) (hc:l.length≤c∧c≤maxLen) (hf:∀ n ∈ l,fits n) :
  Calls Tryz.prog 21 #[.slice A l.length c] w fun e w'=>e=.returned (.bool (tinyB l))∧w'=w:=by
 unfold maxLen at hc
 have HA:=Lib.hid hA
 have HF:=Lib.hid hf
 clear hA hf
 go_enter Tryz.func21,Tryz.ntmps21
 go_wp2_with fail
 go_loop [2,3] (fun _ i=>∃ k:Nat,k≤l.length∧i=.int .i64 k∧(l.take k).all tinyZ=true) (fun _ i=>l.length - (intOf i).toNat)
 case atStart=>exact ⟨0,Nat.zero_le _,rfl,rfl⟩
 case round =>
  obtain ⟨k,hk,rfl,hall⟩:=hrel
  have HALL:=Lib.hid hall
  clear hall
  by_cases hlt:k<l.length
  ·obtain ⟨bA,oA,rfl,hbA,hcA⟩:=HA.out.at (by rw [ints_length];omega)
   have hld:w.cell? ⟨bA,oA+k,none⟩=some (.int .i64 l[k]):=by
    rw [hcA k (by rw [ints_length];exact hlt)];simp [ints]
   clear hcA
   have hfk:=HF.out l[k] (List.getElem_mem hlt)
   have HT:=Lib.hid (fun h=>all_take (f:=tinyZ) hlt HALL.out h)
   have HB:=Lib.hid (fun h=>all_bad (f:=tinyZ) hlt h)
   generalize l[k]=z at *
   unfold fits at hfk
   by_cases h1:z < -100
   ·have HB2:=Lib.hid (HB.out (by unfold tinyZ;simp;omega))
    go_wp2_with fail
    go_ret
    exact ⟨ret_bool HB2.out.symm,rfl⟩
   ·by_cases h2:100<z
    ·have HB2:=Lib.hid (HB.out (by unfold tinyZ;simp;omega))
     go_wp2_with fail
     go_ret
     exact ⟨ret_bool HB2.out.symm,rfl⟩
    ·have HT2:=Lib.hid (HT.out (by unfold tinyZ;simp;omega))
     go_wp2_with fail
     go_round
     case rel=>exact ⟨k+1,by omega,by go_num,HT2.out⟩
     case measure=>simp [intOf];omega
  ·have hkx:k=l.length:=by omega
   have HV:=Lib.hid (show tinyB l=true by have:=HALL.out;rwa [hkx,List.take_length] at this)
   clear hkx
   go_wp2_with fail
   go_ret
   exact ⟨ret_bool HV.out.symm,rfl⟩
theorem tiny_one (z:Int) (b:Nat) (w:World) (cs:Array Value) (t:TypeId) (h:w.heap[b]? = some (.cells cs t)) (e:cs=#[.int .i64 z]) (hf:fits z) :
  Calls Tryz.prog 21 #[.slice (some ⟨b,0,none⟩) 1 1] w fun e w'=>e=.returned (.bool (tinyB [z]))∧w'=w:=by
 refine tiny_any [z] (some ⟨b,0,none⟩) 1 w (cells_row h (by rw [e];rfl)) ⟨Nat.le_refl 1,by unfold maxLen;decide⟩ (fun n hn=>by rw [List.mem_singleton] at hn;rw [hn];exact hf)
set_option maxHeartbeats 4000000 in
set_option maxRecDepth 100000 in
theorem few_any (cost:List Int) (rs:List RowV) (A:Option Addr) (ca:Nat) (R:Option Addr) (cr:Nat) (w:World) (hp:LinAt w cost rs A ca R cr) :
  Calls Tryz.prog 8 #[linV A cost.length ca R rs.length cr] w fun e w'=>e=.returned (.bool (fewB cost rs))∧Below w.heap.size w w':=by
 have hla:=hp.la
 have hlr:=hp.lr
 unfold maxLen at hla hlr
 have b0:=new_below w (linO A cost.length ca R rs.length cr)
 have HTC:=Lib.hid (fun w' (hb:Below w.heap.size w w')=>tiny_any cost A ca w' (hp.cells.below hb) hp.la hp.fit)
 have HP:=Lib.hid hp
 clear hp
 by_cases h1:cost.length≤7
 ·have h1':¬ (7:Int)<(cost.length:Int):=by omega
  by_cases h2:rs.length≤7
  ·have h2':¬ (7:Int)<(rs.length:Int):=by omega
   obtain ⟨d0,d1,d2⟩:=lin_cells (w:=w) (u:=.slice A cost.length ca) (v:=.slice R rs.length cr) (t:=25) (Below.refl _ _)
   rcases htc:tinyB cost
   ·have HV:=Lib.hid (show fewB cost rs=false by unfold fewB;simp [htc])
    go_enter Tryz.func8,Tryz.ntmps8
    go_wp2_with fail
    refine (HTC.out _ b0).mono ?_
    rintro e w' ⟨rfl,rfl⟩
    rw [htc]
    go_wp2_with fail
    go_ret
    exact ⟨ret_bool HV.out.symm,b0⟩
   ·have HV:=Lib.hid (show fewB cost rs=rs.all (fun r=>fewR r.L) by unfold fewB;simp [h1,h2,htc])
    go_enter Tryz.func8,Tryz.ntmps8
    go_wp2_with fail
    refine (HTC.out _ b0).mono ?_
    rintro e w' ⟨rfl,rfl⟩
    rw [htc]
    go_wp2_with fail
    go_loopw [2,3] (fun _ i wr=>∃ k:Nat,k≤rs.length∧i=.int .i64 k∧(rs.take k).all (fun r=>fewR r.L)=true∧Below (w.alloc (linO A cost.length ca R rs.length cr)).heap.size (w.alloc (linO A cost.length ca R rs.length cr)) wr) (fun _ i _=>rs.length - (intOf i).toNat)
    case atStart=>exact ⟨0,Nat.zero_le _,rfl,rfl,Below.refl _ _⟩
    case round =>
     obtain ⟨k,hk,rfl,hall,hbr⟩:=hrel
     obtain ⟨d0,d1,d2⟩:=lin_cells (w:=w) (u:=.slice A cost.length ca) (v:=.slice R rs.length cr) (t:=25) hbr
     have bW:=below_lift3 b0 hbr
     have HALL:=Lib.hid hall
     have HBR:=Lib.hid hbr
     clear hall hbr
     by_cases hlt:k<rs.length
     ·obtain ⟨bR,oR,rfl,hbR,hcR⟩:=HP.out.rows.at (by omega)
      have hc0:=(bW.cell (p:=⟨bR,oR+k*3,none⟩) hbR).trans (hcR k hlt).1
      have hc2:=(bW.cell (p:=⟨bR,oR+k*3+2,none⟩) hbR).trans (hcR k hlt).2.2
      clear hcR
      have hok:=HP.out.ok rs[k] (List.getElem_mem hlt)
      have hcl:rs[k].L.coef.length≤maxLen:=Nat.le_trans hok.1 hok.2.1
      unfold maxLen at hcl
      have HT:=Lib.hid (fun h=>all_take (f:=fun r:RowV=>fewR r.L) hlt HALL.out h)
      have HB:=Lib.hid (fun h=>all_bad (f:=fun r:RowV=>fewR r.L) hlt h)
      have HTR:=Lib.hid (tiny_any rs[k].L.coef rs[k].A rs[k].c wr ((HP.out.rows.2 _ (List.getElem_mem hlt)).below bW) ⟨hok.1,hok.2.1⟩ hok.2.2.1)
      have hfr:=hok.2.2.2.2
      generalize rs[k]=r at *
      clear hok
      have n1:=new_below wr (.cells #[.int .i64 r.L.right] 3)
      have HTO:=Lib.hid (tiny_one r.L.right wr.heap.size (wr.alloc (.cells #[.int .i64 r.L.right] 3)) _ _ row_new rfl hfr)
      have HN:=Lib.hid n1
      by_cases h3:r.L.coef.length≤9
      ·have h3':¬ (9:Int)<(r.L.coef.length:Int):=by omega
       rcases htr:tinyB r.L.coef
       ·have HB2:=Lib.hid (HB.out (by unfold fewR;simp [htr]))
        go_wp2_with fail
        refine HTR.out.mono ?_
        rintro e w' ⟨rfl,hw⟩
        obtain rfl:=hw.symm
        rw [htr]
        clear hw
        go_wp2_with fail
        go_ret
        exact ⟨ret_bool (by rw [HV.out,HB2.out]),bW⟩
       ·rcases hto:tinyB [r.L.right]
        ·have HB2:=Lib.hid (HB.out (by unfold fewR;simp [hto]))
         go_wp2_with fail
         refine HTR.out.mono ?_
         rintro e w' ⟨rfl,hw⟩
         obtain rfl:=hw.symm
         rw [htr]
         clear hw
         go_wp2_with fail
         refine HTO.out.mono ?_
         rintro e w' ⟨rfl,rfl⟩
         rw [hto]
         go_wp2_with fail
         go_ret
         exact ⟨ret_bool (by rw [HV.out,HB2.out]),below_lift3 bW HN.out⟩
        ·have HT2:=Lib.hid (HT.out (by unfold fewR;simp [h3,htr,hto]))
         go_wp2_with fail
         refine HTR.out.mono ?_
         rintro e w' ⟨rfl,hw⟩
         obtain rfl:=hw.symm
         rw [htr]
         clear hw
         go_wp2_with fail
         refine HTO.out.mono ?_
         rintro e w' ⟨rfl,rfl⟩
         rw [hto]
         go_wp2_with fail
         go_roundw
         case rel=>exact ⟨k+1,by omega,by go_num,HT2.out,below_lift3 HBR.out HN.out⟩
         case measure=>simp [intOf];omega
      ·have h3':(9:Int)<(r.L.coef.length:Int):=by omega
       have HB2:=Lib.hid (HB.out (by unfold fewR;simp [h3]))
       go_wp2_with fail
       go_ret
       exact ⟨ret_bool (by rw [HV.out,HB2.out]),bW⟩
     ·have hkx:k=rs.length:=by omega
      have HA:=Lib.hid (show rs.all (fun r=>fewR r.L)=true by have:=HALL.out;rwa [hkx,List.take_length] at this)
      clear hkx
      go_wp2_with fail
      go_ret
      exact ⟨ret_bool (by rw [HV.out,HA.out]),bW⟩
  ·have h2':(7:Int)<(rs.length:Int):=by omega
   have HV:=Lib.hid (show fewB cost rs=false by unfold fewB;simp [h2])
   obtain ⟨d0,d1,d2⟩:=lin_cells (w:=w) (u:=.slice A cost.length ca) (v:=.slice R rs.length cr) (t:=25) (Below.refl _ _)
   go_enter Tryz.func8,Tryz.ntmps8
   go_wp2_with fail
   go_ret
   exact ⟨ret_bool HV.out.symm,b0⟩
 ·have h1':(7:Int)<(cost.length:Int):=by omega
  have HV:=Lib.hid (show fewB cost rs=false by unfold fewB;simp [h1])
  go_enter Tryz.func8,Tryz.ntmps8
  go_wp2_with fail
  go_ret
  exact ⟨ret_bool HV.out.symm,b0⟩
end Go.Proofs.YtmppmdmekomjbaaGreatDoor
namespace Go.Proofs.YtmppmdmekomjbaaGreatDoor
open Go.RowKit Num
set_option linter.unusedVariables false
structure OkP (d2:Nat) (cost:List Int) (rs:List RowV):Prop where
 cl:checkK (linOf cost rs) rs.length=[]
 len:∀ r ∈ rs,r.L.coef.length=cost.length
 kd:∀ r ∈ rs,r.L.kind=1∨r.L.kind=2∨r.L.kind=3
 sm:SmallL 3 d2 (linOf cost rs)
 n7:cost.length≤7
 m7:rs.length≤7
 wf:wfL (linOf cost rs)
 fc:∀ r ∈ (linOf cost rs).rows,∀ n ∈ r.coef,fits n
theorem few_parts {cost:List Int} {rs:List RowV} (h:fewB cost rs=true):cost.length≤7∧rs.length≤7∧(∀ n ∈ cost,-100≤n∧n≤100)∧∀ r ∈ rs,r.L.coef.length≤9∧(∀ n ∈ r.L.coef,-100≤n∧n≤100) ∧ -100≤r.L.right∧r.L.right≤100:=by
 unfold fewB fewR tinyB tinyZ at h
 simp only [Bool.and_eq_true,decide_eq_true_eq,List.all_eq_true] at h
 obtain ⟨⟨⟨h1,h2⟩,h3⟩,h4⟩:=h
 refine ⟨h1,h2,h3,fun r hr=>?_⟩
 obtain ⟨⟨h5,h6⟩,h7⟩:=h4 r hr
 have:=h7 r.L.right (by simp)
 exact ⟨h5,h6,this.1,this.2⟩
theorem dl_tiny {n:Int} (h:-100≤n∧n≤100):dl n≤3:=by
 rw [dl_le (by omega)]
 omega
theorem fits_tiny {n:Int} (h:-100≤n∧n≤100):fits n:=by constructor <;> omega
theorem okp_of {d2:Nat} {cost:List Int} {rs:List RowV} (hd:3≤d2) (h2:rs.length≤7) (h1:cost.length≤7) (hc:∀ n ∈ cost,fits n∧dl n≤d2) (hq:∀ r ∈ rs,(∀ n ∈ r.L.coef,-100≤n∧n≤100) ∧ -100≤r.L.right∧r.L.right≤100) (hk:checkK (linOf cost rs) rs.length=[]):OkP d2 cost rs:=by
 have hco:=Num.check_ok (p:=linOf cost rs) (by rw [lin_rows];exact hk)
 have hmem:∀ r ∈ (linOf cost rs).rows,∃ v ∈ rs,v.L=r:=fun r hr=>by
  unfold linOf at hr
  exact List.mem_map.1 hr
 have hme2:∀ v ∈ rs,v.L ∈ (linOf cost rs).rows:=fun v hv=>by
  unfold linOf
  exact List.mem_map.2 ⟨v,hv,rfl⟩
 refine ⟨hk,fun r hr=>(hco.2.2 _ (hme2 r hr)).1,fun r hr=>?_,⟨?_,?_,?_⟩,h1,h2,⟨?_,?_⟩,?_⟩
 ·have:=(hco.2.2 _ (hme2 r hr)).2
  omega
 ·intro r hr n hn
  obtain ⟨v,hv,rfl⟩:=hmem r hr
  exact dl_tiny ((hq v hv).1 n hn)
 ·intro r hr
  obtain ⟨v,hv,rfl⟩:=hmem r hr
  exact dl_tiny (hq v hv).2
 ·intro n hn
  exact (hc n hn).2
 ·intro r hr
  refine ⟨(hco.2.2 _ hr).1,?_⟩
  obtain ⟨v,hv,rfl⟩:=hmem r hr
  exact fits_tiny (hq v hv).2
 ·intro n hn
  exact (hc n hn).1
 ·intro r hr n hn
  obtain ⟨v,hv,rfl⟩:=hmem r hr
  exact fits_tiny ((hq v hv).1 n hn)
theorem okp_few {cost:List Int} {rs:List RowV} (h:fewB cost rs=true) (hk:checkK (linOf cost rs) rs.length=[]):OkP 3 cost rs:=by
 obtain ⟨h1,h2,h3,h4⟩:=few_parts h
 exact okp_of (Nat.le_refl 3) h2 h1 (fun n hn=>⟨fits_tiny (h3 n hn),dl_tiny (h3 n hn)⟩) (fun r hr=>⟨(h4 r hr).2.1,(h4 r hr).2.2⟩) hk
theorem gr_seven {m d:Nat} (h:m≤7):gr m d≤gr 7 d:=gr_more h d
theorem sol_okp {d2 D:Nat} (cost:List Int) (rs:List RowV) (A:Option Addr) (ca:Nat) (R:Option Addr) (cr:Nat) (w:World) (hp:LinAt w cost rs A ca R cr) (ho:OkP d2 cost rs) (hdd:3≤d2∧d2≤5) (hg:gr 7 d2≤D) (hD2:255≤D) (hD:3*D+16≤4096) (he:Env w) :
  Calls Tryz.prog 10 #[linV A cost.length ca R rs.length cr] w fun e w'=>∃ (v:Value) (a:AnsL),e=.returned (.tuple #[v,.int .i64 0])∧AnsAt w' v a∧AnsR D (linOf cost rs) a∧Below w.heap.size w w':=by
 have hm7:=ho.m7
 refine sxsolve_any cost rs A ca R cr w hp ho.cl ho.len (fun i hi=>?_) ho.sm hdd ho.n7 ho.m7 ?_ (Nat.le_trans (gr_seven ho.m7) hg) hD2 hD he
 ·have hi':i<(linOf cost rs).rows.length:=by rw [lin_rows];exact hi
  rw [rowAt_eq hi']
  have:(linOf cost rs).rows[i]=rs[i].L:=List.getElem_map (fun r:RowV=>r.L)
  rw [this]
  exact ho.kd _ (List.getElem_mem hi)
 ·refine Nat.le_trans (gr_more (l:=6) (by omega) 3) ?_
  decide
theorem okp_kd {d2:Nat} {cost:List Int} {rs:List RowV} (ho:OkP d2 cost rs):∀ r ∈ (linOf cost rs).rows,r.kind=1∨r.kind=2∨r.kind=3:=by
 intro r hr
 unfold linOf at hr
 obtain ⟨v,hv,rfl⟩:=List.mem_map.1 hr
 exact ho.kd v hv
def AnsT (p:LinL) (a:AnsL):Prop:=(a.kind=1∧fitsB p a.X=true∧provedB p a=true)∨(a.kind=2∧refutesB p a.dual=true)∨(a.kind=3∧fitsB p a.X=true∧fallsB p a.ray=true)
theorem okp_text {cost:List Int} {rs:List RowV} {a:AnsL} (ho:OkP 3 cost rs) (h:AnsR 511 (linOf cost rs) a):chkA (linOf cost rs) rs.length a=0∧AnsT (linOf cost rs) a:=by
 have:=chk_ok ho.wf ho.fc (okp_kd ho) ho.n7 (by rw [lin_rows];exact ho.m7) (by decide) h
 rw [lin_rows] at this
 exact this
theorem ans_val {D:Nat} {p:LinL} {a:AnsL} (hw:wfL p) (hn:p.cost.length≤7) (h:AnsR D p a):a.value.length≤1000000:=by
 rcases h with ⟨_,_,_,_,hv,_⟩ | ⟨_,_,_,hv,_⟩ | ⟨_,_,hv,_⟩
 ·have:=times_len2 p.cost a.X
  rw [hv] at this
  omega
 ·rw [hv];simp
 ·rw [hv];simp
attribute [local go_sem] B_size B_get B_toList B_mk B_extract B_append
attribute [local go_sem high] run_max2
def awR (a b:Nat):List RowV:=[⟨some ⟨a,0,none⟩,2,⟨[1,1],3,2⟩⟩,⟨some ⟨b,0,none⟩,2,⟨[1,0],1,1⟩⟩]
def awP:LinL:=⟨[1,2],[⟨[1,1],3,2⟩,⟨[1,0],1,1⟩]⟩
theorem aw_lin (a b:Nat):linOf [1,2] (awR a b)=awP:=rfl
def awS:AnsL:=⟨1,[[49],[49]],[[50],[45,49]],[],[51]⟩
theorem aw_fit:fitsB awP awS.X=true:=by decide +kernel
theorem aw_prv:provedB awP awS=true:=by decide +kernel
theorem aw_pr:provesB awP awS.dual=true:=by decide +kernel
theorem aw_chk:checkK awP 2=[]:=by decide +kernel
theorem aw_few (a b:Nat):fewB [1,2] (awR a b)=true:=by unfold awR;rfl
theorem aw_okp (a b:Nat):OkP 3 [1,2] (awR a b):=okp_few (aw_few a b) aw_chk
theorem aw_ans {a b:Nat} {s:AnsL} (h:AnsR 511 (linOf [1,2] (awR a b)) s):s.kind=1∧s.value=[51]∧chkA (linOf [1,2] (awR a b)) 2 s=0:=by
 have ho:=aw_okp a b
 have ht:=okp_text ho h
 rw [aw_lin] at h ht
 have hw:wfL awP:=ho.wf
 refine ⟨?_,?_,ht.1⟩
 ·rcases ht.2 with h1 | h1 | h1
  ·exact h1.1
  ·have:=weak_refutes (ds:=s.dual) hw aw_fit
   rw [h1.2] at this;exact absurd this (by decide)
  ·rcases h with h2 | h2 | h2
   ·exact h2.1
   ·exact absurd (h2.1.symm.trans h1.1) (by decide)
   ·have:=ray_none (ray:=s.ray) hw h2.2.2.2.2.len (List.all_eq_true.2 fun x hx=>(h2.2.2.2.2.fr x hx).right (by omega)) aw_pr
    rw [h1.2.2] at this;exact absurd this (by decide)
 ·rcases ht.2 with h1 | h1 | h1
  ·exact value_one hw h1.2.1 aw_fit h1.2.2 aw_prv
  ·have:=weak_refutes (ds:=s.dual) hw aw_fit
   rw [h1.2] at this;exact absurd this (by decide)
  ·rcases h with h2 | h2 | h2
   ·exact absurd (h2.1.symm.trans h1.1) (by decide)
   ·exact absurd (h2.1.symm.trans h1.1) (by decide)
   ·have:=ray_none (ray:=s.ray) hw h2.2.2.2.2.len (List.all_eq_true.2 fun x hx=>(h2.2.2.2.2.fr x hx).right (by omega)) aw_pr
    rw [h1.2.2] at this;exact absurd this (by decide)
abbrev awC (w:World):World:=((((w.alloc (.cells #[.int .i64 1,.int .i64 2] 3)).alloc (.cells #[.int .i64 1,.int .i64 1] 3)).alloc (.cells #[.int .i64 1,.int .i64 0] 3)).alloc (.cells #[.slice (some ⟨w.heap.size+1,0,none⟩) 2 2,.int .i64 3,.int .i64 2,.slice (some ⟨w.heap.size+1+1,0,none⟩) 2 2,.int .i64 1,.int .i64 1] 45))
theorem aw_at (w:World):LinAt (awC w) [1,2] (awR (w.heap.size+1) (w.heap.size+1+1)) (some ⟨w.heap.size,0,none⟩) 2 (some ⟨w.heap.size+1+1+1,0,none⟩) 2:=by
 have h0:=row_on (row_on (row_on (row_new (w:=w) (o:=(.cells #[.int .i64 1,.int .i64 2] 3))) (new_below _ (.cells #[.int .i64 1,.int .i64 1] 3))) (new_below _ (.cells #[.int .i64 1,.int .i64 0] 3))) (new_below _ (.cells #[.slice (some ⟨w.heap.size+1,0,none⟩) 2 2,.int .i64 3,.int .i64 2,.slice (some ⟨w.heap.size+1+1,0,none⟩) 2 2,.int .i64 1,.int .i64 1] 45))
 have h1:=row_on (row_on (row_new (w:=w.alloc (.cells #[.int .i64 1,.int .i64 2] 3)) (o:=(.cells #[.int .i64 1,.int .i64 1] 3))) (new_below _ (.cells #[.int .i64 1,.int .i64 0] 3))) (new_below _ (.cells #[.slice (some ⟨w.heap.size+1,0,none⟩) 2 2,.int .i64 3,.int .i64 2,.slice (some ⟨w.heap.size+1+1,0,none⟩) 2 2,.int .i64 1,.int .i64 1] 45))
 have h2:=row_on (row_new (w:=(w.alloc (.cells #[.int .i64 1,.int .i64 2] 3)).alloc (.cells #[.int .i64 1,.int .i64 1] 3)) (o:=(.cells #[.int .i64 1,.int .i64 0] 3))) (new_below _ (.cells #[.slice (some ⟨w.heap.size+1,0,none⟩) 2 2,.int .i64 3,.int .i64 2,.slice (some ⟨w.heap.size+1+1,0,none⟩) 2 2,.int .i64 1,.int .i64 1] 45))
 have h3:=row_new (w:=((w.alloc (.cells #[.int .i64 1,.int .i64 2] 3)).alloc (.cells #[.int .i64 1,.int .i64 1] 3)).alloc (.cells #[.int .i64 1,.int .i64 0] 3)) (o:=(.cells #[.slice (some ⟨w.heap.size+1,0,none⟩) 2 2,.int .i64 3,.int .i64 2,.slice (some ⟨w.heap.size+1+1,0,none⟩) 2 2,.int .i64 1,.int .i64 1] 45))
 rw [World.size_alloc] at h1
 rw [World.size_alloc,World.size_alloc] at h2
 rw [World.size_alloc,World.size_alloc,World.size_alloc] at h3
 refine ⟨cells_row h0 rfl,rows_row h3 rfl ?_,?_,?_,⟨Nat.le_refl 2,by unfold maxLen;decide⟩,⟨Nat.le_refl 2,by unfold maxLen;decide⟩⟩
 ·intro r hr
  unfold awR at hr
  simp only [List.mem_cons,List.not_mem_nil,or_false] at hr
  rcases hr with rfl | rfl
  ·exact cells_row h1 rfl
  ·exact cells_row h2 rfl
 ·intro n hn
  refine fits_small ?_
  simp at hn;omega
 ·intro r hr
  unfold awR at hr
  simp only [List.mem_cons,List.not_mem_nil,or_false] at hr
  rcases hr with rfl | rfl
  ·exact ok_of (Nat.le_refl 2) (show 2≤1000 by decide) (show ([1,1]:List Int).all (fun n=>decide (fits n))=true by decide) (show fits 3 by decide) (show fits 2 by decide)
  ·exact ok_of (Nat.le_refl 2) (show 2≤1000 by decide) (show ([1,0]:List Int).all (fun n=>decide (fits n))=true by decide) (show fits 1 by decide) (show fits 1 by decide)
theorem aw_below (w:World):Below w.heap.size w (awC w):=by
 have B1:=new_below w (.cells #[.int .i64 1,.int .i64 2] 3)
 have B2:=B1.trans ((new_below _ (.cells #[.int .i64 1,.int .i64 1] 3)).mono B1.size)
 have B3:=B2.trans ((new_below _ (.cells #[.int .i64 1,.int .i64 0] 3)).mono B2.size)
 exact B3.trans ((new_below _ (.cells #[.slice (some ⟨w.heap.size+1,0,none⟩) 2 2,.int .i64 3,.int .i64 2,.slice (some ⟨w.heap.size+1+1,0,none⟩) 2 2,.int .i64 1,.int .i64 1] 45)).mono B3.size)
set_option maxHeartbeats 8000000 in
set_option maxRecDepth 100000 in
theorem sxawake_any (w:World) (he:Env w) :
  Calls Tryz.prog 9 #[] w fun e w'=>e=.returned (.bool true)∧Below w.heap.size w w':=by
 have L0:=aw_at w
 have B3:=aw_below w
 generalize hw3:awC w=wc at L0 B3
 have HW3:=Lib.hid hw3
 have hs3:wc.heap.size=w.heap.size+1+1+1+1:=by rw [← hw3];simp
 clear hw3
 have n4:=new_below wc (linO (some ⟨w.heap.size,0,none⟩) 2 2 (some ⟨w.heap.size+1+1+1,0,none⟩) 2 2)
 have r4:=row_new (w:=wc) (o:=linO (some ⟨w.heap.size,0,none⟩) 2 2 (some ⟨w.heap.size+1+1+1,0,none⟩) 2 2)
 have hs4:(wc.alloc (linO (some ⟨w.heap.size,0,none⟩) 2 2 (some ⟨w.heap.size+1+1+1,0,none⟩) 2 2)).heap.size=w.heap.size+1+1+1+1+1:=by rw [World.size_alloc,hs3]
 rw [hs3] at r4
 have L4:=L0.below n4
 have B4:=B3.trans (n4.mono B3.size)
 generalize hw4:wc.alloc (linO (some ⟨w.heap.size,0,none⟩) 2 2 (some ⟨w.heap.size+1+1+1,0,none⟩) 2 2)=wd at r4 hs4 L4 B4
 have HW4:=Lib.hid hw4
 clear hw4 n4 L0 B3
 have hd:∀ w',Below wd.heap.size wd w'→w'.cell? ⟨w.heap.size+1+1+1+1,0,none⟩=some (.slice (some ⟨w.heap.size,0,none⟩) 2 2)∧w'.cell? ⟨w.heap.size+1+1+1+1,1,none⟩=some (.slice (some ⟨w.heap.size+1+1+1,0,none⟩) 2 2):=by
  intro w' hb
  have h:=row_on r4 hb
  exact ⟨by rw [cell_of_row w' _ 0 _ _ _ h];rfl,by rw [cell_of_row w' _ 1 _ _ _ h];rfl⟩
 have HD:=Lib.hid hd
 clear hd r4
 obtain ⟨d0,d1⟩:=HD.out wd (Below.refl _ _)
 have HL4:=Lib.hid L4
 have HS:=Lib.hid (sol_okp (d2:=3) (D:=511) [1,2] (awR (w.heap.size+1) (w.heap.size+1+1)) _ 2 _ 2 wd L4 (aw_okp _ _) ⟨by decide,by decide⟩ (by decide) (by decide) (by decide) (he.below B4))
 clear L4
 go_enter Tryz.func9,Tryz.ntmps9
 simp only [B_mk]
 go_wp2_with fail
 simp only [HW3.out,HW4.out]
 refine HS.out.mono ?_
 rintro e w1 ⟨v,a,rfl,⟨X,Y,Z,cx,cy,cz,rfl,hX,hY,hZ⟩,hR,hb1⟩
 obtain ⟨hk,hv,hc⟩:=aw_ans hR
 have hvl:a.value.length≤1000000:=by rw [hv];decide
 have HC:=Lib.hid (fun w' (h:Below w1.heap.size w1 w')=>sxcheck_any [1,2] (awR (w.heap.size+1) (w.heap.size+1+1)) _ 2 _ 2 a X Y Z cx cy cz w' (show 2≤1000000 by decide) (aw_okp _ _).cl (aw_okp _ _).len (aw_okp _ _).kd (HL4.out.below (hb1.trans (h.mono hb1.size))) (hX.below h) (hY.below h) (hZ.below h) hvl (he.below (B4.trans ((hb1.trans (h.mono hb1.size)).mono B4.size))))
 rw [show (awR (w.heap.size+1) (w.heap.size+1+1)).length=2 from rfl,hc] at HC
 have HB1:=Lib.hid hb1
 have n5:=new_below w1 (.cells #[.int .i64 a.kind,.slice X a.X.length cx,.slice Y a.dual.length cy,.slice Z a.ray.length cz,.string (B a.value)] 31)
 have r5:=row_new (w:=w1) (o:=.cells #[.int .i64 a.kind,.slice X a.X.length cx,.slice Y a.dual.length cy,.slice Z a.ray.length cz,.string (B a.value)] 31)
 have HN5:=Lib.hid n5
 have HR5:=Lib.hid r5
 have HC5:=Lib.hid (HC.out _ n5)
 obtain ⟨d0,d1⟩:=HD.out _ (hb1.trans (n5.mono hb1.size))
 clear hX hY hZ hR hb1 n5 r5 hc HC hvl
 obtain ⟨ak,aX,aD,aR,aV⟩:=a
 simp only at hk hv
 subst hk hv
 go_wp2_with fail
 refine HC5.out.mono ?_
 rintro e w2 ⟨rfl,hb2⟩
 go_wp2_with fail
 go_ret
 exact ⟨rfl,B4.trans ((HB1.out.trans ((HN5.out.trans (hb2.mono HN5.out.size)).mono HB1.out.size)).mono B4.size)⟩
end Go.Proofs.YtmppmdmekomjbaaGreatDoor

/- lorryref26: leaves. -/
import Derived.Test.YtmppmdmekomjbaaGreatDoorG44
import Derived.Test.YtmppmdmekomjbaaGreatDoorG34
import Derived.BigQuiet
namespace Go.Proofs.YtmppmdmekomjbaaGreatDoor
open Go.RowKit Num
set_option linter.unusedVariables false
attribute [local go_sem] B_size B_get B_toList B_mk B_extract B_append
attribute [local go_sem high] run_max2
theorem SxK.sayA {w:World} {Bs:Nat} {H:KH} {vars aux:Nat} {rs:List VecV} {bs:List Nat} {tv:List Bool} (h:SxK w Bs H vars aux rs bs tv) {i:Nat} (hi:i<rs.length) (h0:0<((rtx rs).getD i []).length) :
  ∃ (g b off cl:Nat),((rtx rs).getD i []).length≤cl∧cl≤maxLen∧∀ w',Below w.heap.size w w'→w'.cell? ⟨H.kt,0,none⟩=some (.slice (some ⟨g,0,none⟩) rs.length H.c) ∧
   w'.cell? ⟨g,i,none⟩=some (.slice (some ⟨b,off,none⟩) ((rtx rs).getD i []).length cl)∧∀ c,c<((rtx rs).getD i []).length→w'.cell? ⟨b,off+c,none⟩=some (.string (B (cellM (rtx rs) i c))):=by
 obtain ⟨g,hg,_,hg2,hsay⟩:=h.say (by omega)
 have hx:=rtx_get hi
 rw [hx] at h0
 obtain ⟨b,off,hb1,hb2,hnum⟩:=h.num (j:=0) hi h0
 have hcap:=(h.part.rows _ (List.getElem_mem hi)).cap
 refine ⟨g,b,off,rs[i].c,by rw [hx];exact hcap.1,hcap.2,fun w' hb3=>?_⟩
 obtain ⟨y0,_,yA,_⟩:=hsay w' hb3
 have yr:=yA i hi
 rw [hb1] at yr
 refine ⟨y0,by rw [hx];exact yr,fun c hc=>?_⟩
 rw [hx] at hc
 rw [hnum w' hb3 c hc];unfold cellM;rw [hx]
set_option maxHeartbeats 8000000 in
set_option maxRecDepth 100000 in
theorem rxleaves_any {D m vars ci c:Nat} {R:Nat→Nat→Int} {bs:List Nat} {tv:List Bool} {vs:List VecV} {T:Mx} {H:KH} (hE:SxE D m ci R (rtx vs) bs T) (hD:3*D+1≤4096) (Bs:Nat) (w:World)
  (hS:SxK w Bs H vars ci vs bs tv) (hc:c<ci) (hk:ci+m+1≤1000) (hm:m≤500) :
  Calls Tryz.prog 71 #[.pointer (some ⟨H.kt,0,none⟩),.int .i64 c] w fun e w'=>∃ f:Int,e=.returned (.int .i64 f)∧LvP T (bOf bs m (ci+m+1)) c (ci+m) m f∧Below w.heap.size w w':=by
 have hbl:=hE.blen
 have hvl:vs.length=m+1:=by rw [← rtx_length];exact hE.len
 have hkt:=hS.lt
 have c3:=hS.cell 3
 rw [hbl] at c3
 have HC3:=Lib.hid c3
 have hcapA:=hS.part.outer.cap
 have hcapB:=hS.part.bas.cap
 unfold maxLen at hcapA hcapB
 rw [hbl] at hcapB
 have HSA:=Lib.hid (fun i (hi:i<m)=>hS.sayA (i:=i) (by omega) (by rw [(hE.mat.row (i:=i) (by rw [hE.len];omega)).1];omega))
 have HBA:=Lib.hid (fun (h:0<m)=>hS.part.bas.at_ (show 0<bs.length by omega))
 have HRL:=Lib.hid (fun i (hi:i<m)=>(hE.mat.row (i:=i) (by rw [hE.len];omega)).1)
 have HBL:=Lib.hid hbl
 have HE:=Lib.hid hE
 clear hS hE hbl
 go_enter Tryz.func71,Tryz.ntmps71
 simp only [B_mk]
 go_wp2_with fail
 clear c3
 go_loopw [5,6,7,8,9] (fun f s i _ _ wr=>∃ (j:Nat) (f':Int) (s':Str),j≤m∧i=.int .i64 j∧f=.int .i64 f'∧s=.string (B s')∧s'.length≤1000000∧LvS (rtx vs) T (bOf bs m (ci+m+1)) c (ci+m) j f' s'∧Below w.heap.size w wr) (fun _ _ i _ _ _=>m - (intOf i).toNat)
 case atStart=>exact ⟨0,-1,[48],Nat.zero_le _,rfl,rfl,rfl,by simp,.inl ⟨rfl,fun l hl=>absurd hl (Nat.not_lt_zero _)⟩,Below.refl _ _⟩
 case round =>
  obtain ⟨i,f,s,hi,rfl,rfl,rfl,hsl,hlv,hb⟩:=hrel
  have c3:=(hb.cell (p:=⟨H.kt,3,none⟩) hkt).trans HC3.out
  by_cases hlt:i<m
  ·obtain ⟨gA,br,ro,cl,hcl1,hcl2,hsay⟩:=HSA.out i hlt
   rw [HRL.out i hlt] at hcl1 hsay
   unfold maxLen at hcl2
   have hEl:=HE.out
   have hrA:=(hEl.mat.cell (i:=i) (c:=c) (by rw [hEl.len];omega) (by omega)).right (by omega) (by omega)
   have hlA:=frx_len (hEl.mat.cell (i:=i) (c:=c) (by rw [hEl.len];omega) (by omega))
   have hlB:=frx_len (hEl.mat.cell (i:=i) (c:=ci+m) (by rw [hEl.len];omega) (by omega))
   have hsg:=signQ_rat hrA
   rw [← hEl.val i (by omega) c (by omega)] at hsg
   have HSG:=Lib.hid (fun (w:World)=>rqsign_any (cellM (rtx vs) i c) w (by omega))
   have HQUO:=Lib.hid (fun h0=>hEl.quo (i:=i) (c:=c) hD hlt hc h0)
   have HDV:=Lib.hid (fun h0 (p:Value) (w':World)=>rxover_any p (cellM (rtx vs) i (ci+m)) (cellM (rtx vs) i c) w' (by omega) (by omega) (hEl.quo (i:=i) (c:=c) hD hlt hc h0).1)
   have HLV:=Lib.hid hlv
   have HSL:=Lib.hid hsl
   have HBO:=Lib.hid hb
   have HSY:=Lib.hid (fun w' (h:Below w.heap.size w w')=>(show Below w.heap.size w w'∧w'.cell? ⟨H.kt,0,none⟩=some (.slice (some ⟨gA,0,none⟩) vs.length H.c)∧w'.cell? ⟨gA,i,none⟩=some (.slice (some ⟨br,ro,none⟩) (ci+m+1) cl)∧w'.cell? ⟨br,ro+c,none⟩=some (.string (B (cellM (rtx vs) i c)))∧w'.cell? ⟨br,ro+(ci+m),none⟩=some (.string (B (cellM (rtx vs) i (ci+m)))) from by
    obtain ⟨a0,a4,a5⟩:=hsay w' h
    exact ⟨h,a0,a4,a5 c (by omega),a5 (ci+m) (by omega)⟩))
   obtain ⟨_,d0,d3,da,db⟩:=HSY.out wr hb
   clear hsay hEl hrA hlA hlB hlv hsl
   by_cases hpos:0<T i c
   ·have hs1:¬ signQ (cellM (rtx vs) i c)≤0:=by have:=hsg.2.2 hpos;omega
    obtain ⟨q1,q2,q3,q4⟩:=HQUO.out hpos
    have HDV2:=Lib.hid (HDV.out hpos)
    have HQ2:=Lib.hid q2
    have HQ4:=Lib.hid q4
    have HQ3:=Lib.hid q3
    have HPOS:=Lib.hid hpos
    have HQX:=Lib.hid (show quoQS (cellM (rtx vs) i (ci+m)) (cellM (rtx vs) i c)=quoQS (cellM (rtx vs) i (ci+m)) (cellM (rtx vs) i c) from rfl)
    clear HQUO HDV q1 q2 q3 q4 hsg hpos
    generalize hqq:quoQS (cellM (rtx vs) i (ci+m)) (cellM (rtx vs) i c)=q at *
    have HQQ:=Lib.hid hqq
    clear hqq HQX
    generalize signQ (cellM (rtx vs) i c)=sg at *
    generalize hae:cellM (rtx vs) i c=a at *
    generalize hbe:cellM (rtx vs) i (ci+m)=bb at *
    have HAE:=Lib.hid hae
    have HBE:=Lib.hid hbe
    clear hae hbe
    generalize hrr:ci+m=rr at *
    have hsub:((rr+1:Nat):Int) - 1=(rr:Int):=by omega
    have hrk:rr<rr+1:=by omega
    have hck:c<rr+1:=by omega
    have HRR:=Lib.hid hrr
    have hiv:i<vs.length:=by omega
    have hiv1:i<m+1:=by omega
    have hwrap:=wrap_nat (n:=rr) (by omega)
    clear hrr
    clear c3
    have c3:=(hb.cell (p:=⟨H.kt,3,none⟩) hkt).trans HC3.out
    go_wp2_with fail
    refine (HSG.out wr).mono ?_
    rintro e w1 ⟨rfl,hb1⟩
    have hbw1:=below_lift3 hb hb1
    have HQX:=Lib.hid (show q=quoQS (cellM (rtx vs) i rr) (cellM (rtx vs) i c) by rw [HAE.out,HBE.out];exact HQQ.out.symm)
    have hS0:=HSY.out w1.drew (below_drew hbw1)
    have HKP:=Lib.hid (fun (wo wn:World) (h:Below w.heap.size w wo) (hbz:Below wo.heap.size wo wn)=>HSY.out wn (h.trans (hbz.mono h.size)))
    clear d0 d3 da db c3
    go_upto_region 7 with fail
    go_cut [8] (fun q' wx=>q'=.string (B q)∧Below w.heap.size w wx)
    case first =>
     clear hvl
     generalize hrw:rr+1=rw at *
     have g1:rr<rw:=by omega
     have g2:c<rw:=by omega
     have g3:(rw:Int) - 1=(rr:Int):=by omega
     clear hrw hsub hrk hck hiv1
     go_region_held3 (fun w'=>Below w.heap.size w w'∧w'.cell? ⟨H.kt,0,none⟩=some (.slice (some ⟨gA,0,none⟩) vs.length H.c)∧w'.cell? ⟨gA,i,none⟩=some (.slice (some ⟨br,ro,none⟩) rw cl)∧w'.cell? ⟨br,ro+c,none⟩=some (.string (B a))∧w'.cell? ⟨br,ro+rr,none⟩=some (.string (B bb)))
      (first | (exact HKP.out _ _ (And.left (by assumption)) hbz) | (with_reducible exact hS0))
      (first | (go_at_call 113;((with_reducible refine (HDV2.out _ _).mono ?_);rintro e wz ⟨rfl,hbz⟩)))
     all_goals
      have hfin:=(show Below w.heap.size w wz∧wz.cell? ⟨H.kt,0,none⟩=some (.slice (some ⟨gA,0,none⟩) vs.length H.c)∧wz.cell? ⟨gA,i,none⟩=some (.slice (some ⟨br,ro,none⟩) rw cl)∧wz.cell? ⟨br,ro+c,none⟩=some (.string (B a))∧wz.cell? ⟨br,ro+rr,none⟩=some (.string (B bb)) from by assumption).1
      go_wp2_with fail
      go_meet
      exact ⟨rfl,hfin⟩
    case rest =>
     obtain ⟨rfl,hbw2⟩:=hcut
     rcases HLV.out with ⟨rfl,hno⟩ | ⟨r,rfl,hr,hs⟩
     ·have HN:=Lib.hid (show LvS (rtx vs) T (bOf bs m (rr+1)) c rr (i+1) i q from .inr ⟨i,rfl,Lv.first hno HPOS.out,HQX.out⟩)
      have HCM:=Lib.hid (fun (w:World)=>rqcmp_any q s w HQ4.out HSL.out)
      clear hno
      generalize cmpQ q s=cm at *
      go_wp2_with fail
      refine (HCM.out _).mono ?_
      rintro e w3 ⟨rfl,hb3⟩
      have hbw3:=below_lift3 hbw2 hb3
      go_wp2_with fail
      go_quiet (fail)
      go_wp2_with fail
      go_roundw
      case rel=>exact ⟨i+1,i,q,by omega,by go_num,rfl,rfl,HQ4.out,HN.out,below_drewN hbw3 _⟩
      case measure=>simp [intOf];omega
     ·have hri:=hr.1
      have hnl:¬ (r:Int)<0:=by omega
      have hrm:r<m:=by omega
      have hQr:=HE.out.quo (i:=r) (c:=c) hD hrm hc hr.2.1
      rw [HRR.out,← hs] at hQr
      have HCM:=Lib.hid (fun (w:World)=>rqcmp_any q s w HQ4.out hQr.2.2.2)
      have hcm:=cmpQ_rat HQ2.out hQr.2.1
      rw [HQ3.out,hQr.2.2.1] at hcm
      have HR:=Lib.hid hr
      have HS:=Lib.hid hs
      have HCI:=Lib.hid hcm
      obtain ⟨gb,hgb,_,hgb2,hbc,_⟩:=HBA.out (by omega)
      have hbi:=hbc i (by rw [HBL.out];exact hlt)
      have hbr:=hbc r (by rw [HBL.out];exact hrm)
      rw [nums_get _ _ (by rw [HBL.out];exact hlt)] at hbi
      rw [nums_get _ _ (by rw [HBL.out];exact hrm)] at hbr
      have hbi:w.cell? ⟨gb,i,none⟩=some (.int .i64 (bs.getD i 0:Nat)):=hbi
      have hbr:w.cell? ⟨gb,r,none⟩=some (.int .i64 (bs.getD r 0:Nat)):=hbr
      have hcc:=HC3.out
      have hcc:w.cell? ⟨H.kt,3,none⟩=some (.slice (some ⟨gb,0,none⟩) m H.cb):=by rw [hcc,← hgb];rfl
      have HBI:=Lib.hid (bOf_lt (bs:=bs) (z:=rr+1) hlt)
      have HBR:=Lib.hid (bOf_lt (bs:=bs) (z:=rr+1) hrm)
      clear hbc hr hs hcm hQr hgb
      generalize cmpQ q s=cm at *
      go_wp2_with fail
      refine (HCM.out _).mono ?_
      rintro e w3 ⟨rfl,hb3⟩
      have hbw3:=below_lift3 hbw2 hb3
      have e1:=(hbw3.cell (p:=⟨gb,i,none⟩) hgb2).trans hbi
      have e2:=(hbw3.cell (p:=⟨gb,r,none⟩) hgb2).trans hbr
      have e3:=(hbw3.cell (p:=⟨H.kt,3,none⟩) hkt).trans hcc
      have HQ5:=Lib.hid HQ4.out
      have HSL2:=Lib.hid HSL.out
      clear hbi hbr hcc hbw2 hb3
      by_cases h1:cm<0
      ·have HN:=Lib.hid (show LvS (rtx vs) T (bOf bs m (rr+1)) c rr (i+1) i q from .inr ⟨i,rfl,Lv.new HR.out HPOS.out (.inl (HCI.out.1.1 h1)),HQX.out⟩)
       clear HE HPOS HQ2 HQ4 HSG HDV2 HQQ HAE HQ3 HBE HRR HQX HLV HR HS HBI HBR HCM HCI HSY HKP HSA HRL HBA hS0 HBO hbw1 hb1
       go_wp2_with fail
       have g1:decide (cm<0)=true:=by simpa using h1
       have g2:decide ((r:Int)<0)=false:=by simp
       go_quiet (fail)
       go_wp2_with fail
       go_roundw
       case rel=>exact ⟨i+1,i,q,by omega,by go_num,rfl,rfl,HQ5.out,HN.out,below_drewN hbw3 _⟩
       case measure=>simp [intOf];omega
      ·by_cases h2:cm=0
       ·have hth:T i rr / T i c=T r rr / T r c:=by
         have:=HCI.out
         have g1:¬ T i rr / T i c<T r rr / T r c:=fun h=>h1 (this.1.2 h)
         have g2:¬ T r rr / T r c<T i rr / T i c:=fun h=>by have:=this.2.2 h;omega
         grind
        by_cases h3:bs.getD i 0<bs.getD r 0
        ·have HN:=Lib.hid (show LvS (rtx vs) T (bOf bs m (rr+1)) c rr (i+1) i q from .inr ⟨i,rfl,Lv.new HR.out HPOS.out (.inr ⟨hth,by rw [HBI.out,HBR.out];omega⟩),HQX.out⟩)
         have h3':((bs.getD i 0:Nat):Int)<((bs.getD r 0:Nat):Int):=by omega
         clear HE HPOS HQ2 HQ4 HSG HDV2 HQQ HAE HQ3 HBE HRR HQX HLV HR HS HBI HBR HCM HCI HSY HKP HSA HRL HBA hS0 HBO hbw1 hb1
         clear hth h3
         generalize bs.getD i 0=bi at *
         generalize bs.getD r 0=br2 at *
         subst h2
         go_wp2_with fail
         have g2:decide ((r:Int)<0)=false:=by simp
         have g3:decide ((bi:Int)<(br2:Int))=true:=decide_eq_true h3'
         go_quiet (fail)
         go_wp2_with fail
         go_roundw
         case rel=>exact ⟨i+1,i,q,by omega,by go_num,rfl,rfl,HQ5.out,HN.out,below_drewN hbw3 _⟩
         case measure=>simp [intOf];omega
        ·have HN:=Lib.hid (show LvS (rtx vs) T (bOf bs m (rr+1)) c rr (i+1) r s from .inr ⟨r,rfl,Lv.keep HR.out (.inr ⟨hth.symm,by rw [HBI.out,HBR.out];omega⟩),HS.out⟩)
         have h3':decide (((bs.getD i 0:Nat):Int)<((bs.getD r 0:Nat):Int))=false:=by rw [decide_eq_false_iff_not];omega
         have H3:=Lib.hid h3'
         clear HE HPOS HQ2 HQ4 HSG HDV2 HQQ HAE HQ3 HBE HRR HQX HLV HR HS HBI HBR HCM HCI HSY HKP HSA HRL HBA hS0 HBO hbw1 hb1
         clear hth h3 h3'
         generalize bs.getD i 0=bi at *
         generalize bs.getD r 0=br2 at *
         subst h2
         go_wp2_with fail
         have g2:decide ((r:Int)<0)=false:=by simp
         have g3:=H3.out
         have g4:decide (bi<br2)=false:=by rw [decide_eq_false_iff_not] at g3 ⊢;omega
         have g5:(decide (bi<br2))≠true:=by rw [g4];decide
         have g6:br2≤bi:=by rw [decide_eq_false_iff_not] at g3;omega
         go_quiet (fail)
         go_wp2_with fail
         go_roundw
         case rel=>exact ⟨i+1,r,s,by omega,by go_num,rfl,rfl,HSL2.out,HN.out,below_drewN hbw3 _⟩
         case measure=>simp [intOf];omega
       ·have HN:=Lib.hid (show LvS (rtx vs) T (bOf bs m (rr+1)) c rr (i+1) r s from .inr ⟨r,rfl,Lv.keep HR.out (.inl (HCI.out.2.1 (by omega))),HS.out⟩)
        have h2':(cm == 0)=false:=by simpa using h2
        have H1:=Lib.hid (show decide (cm<0)=false by rw [decide_eq_false_iff_not];exact h1)
        clear h2 h1
        clear HE HPOS HQ2 HQ4 HSG HDV2 HQQ HAE HQ3 HBE HRR HQX HLV HR HS HBI HBR HCM HCI HSY HKP HSA HRL HBA hS0 HBO hbw1 hb1
        go_wp2_with fail
        have g1:=H1.out
        have g2:decide ((r:Int)<0)=false:=by simp
        go_quiet (fail)
        go_wp2_with fail
        go_roundw
        case rel=>exact ⟨i+1,r,s,by omega,by go_num,rfl,rfl,HSL2.out,HN.out,below_drewN hbw3 _⟩
        case measure=>simp [intOf];omega
   ·have hs1:signQ (cellM (rtx vs) i c)≤0:=by
     have h1:¬ 0<signQ (cellM (rtx vs) i c):=fun h=>hpos (hsg.2.1 h)
     omega
    have HN:=Lib.hid (show LvS (rtx vs) T (bOf bs m (ci+m+1)) c (ci+m) (i+1) f s from by
     rcases HLV.out with ⟨h1,h2⟩ | ⟨r,h1,h2,h3⟩
     ·refine .inl ⟨h1,fun l hl=>?_⟩
      by_cases e:l=i
      ·rw [e];exact hpos
      ·exact h2 l (by omega)
     ·exact .inr ⟨r,h1,h2.skip hpos,h3⟩)
    clear HQUO HDV hsg hpos HLV
    generalize signQ (cellM (rtx vs) i c)=sg at *
    generalize cellM (rtx vs) i c=a at *
    clear db
    go_wp2_with fail
    refine (HSG.out wr).mono ?_
    rintro e w1 ⟨rfl,hb1⟩
    have hbw1:=below_lift3 hb hb1
    clear da d3
    go_wp2_with fail
    go_roundw
    case rel=>exact ⟨i+1,f,s,by omega,by go_num,rfl,rfl,HSL.out,HN.out,hbw1⟩
    case measure=>simp [intOf];omega
  ·have him:i=m:=by omega
   have hix:¬ (i:Int)<(m:Int):=by omega
   have HX:=Lib.hid (show LvP T (bOf bs m (ci+m+1)) c (ci+m) m f from by
    rw [him] at hlv
    rcases hlv with ⟨h1,h2⟩ | ⟨r,h1,h2,_⟩
    ·exact .inl ⟨h1,h2⟩
    ·exact .inr ⟨r,h1,h2⟩)
   clear him hlv
   go_wp2_with fail
   go_ret
   exact ⟨f,rfl,HX.out,hb⟩
end Go.Proofs.YtmppmdmekomjbaaGreatDoor

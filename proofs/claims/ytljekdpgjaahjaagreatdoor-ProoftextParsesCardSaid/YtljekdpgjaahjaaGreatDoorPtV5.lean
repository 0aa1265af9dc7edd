/- lorryref23.Print. -/
import Derived.Test.YtljekdpgjaahjaaGreatDoorPtV4
namespace Go.Proofs.YtljekdpgjaahjaaGreatDoor
open Go.RowKit Num Txt Pf
set_option linter.unusedVariables false
attribute [local go_sem] B_size B_get B_toList B_mk B_extract B_append
set_option maxHeartbeats 4000000 in
set_option maxRecDepth 100000 in
theorem rplprint_any (m:PlanM) (w:World) (h:PlanAt w m) (h1:m.rs.length≤10000) (h2:m.us.length≤100000) (h3:∀ r ∈ m.rs,r.r.rests.length≤6000∧r.r.vis.length≤6000) :
  Calls Tryz.prog 18 #[planA m] w fun e w'=>e=.returned (.string (B (planS m.v)))∧Below w.heap.size w w':=by
 have l1:=h.rl
 have l2:=h.ul
 unfold maxLen at l1 l2
 have hJ:planS m.v=(m.rs.flatMap fun r=>lineS (rouWs r.r)) ++ unsW ++ (m.us.flatMap fun u=>32 :: decI u) ++ [10]:=by
  show rousS (m.rs.map (·.r)) ++ lineS (unsWs m.us)=_
  unfold rousS lineS
  rw [List.flatMap_map,join_uns]
  simp only [List.append_assoc]
 have HLEN:=Lib.hid (fun (r:RouM) (hr:r ∈ m.rs)=>rouWs_len (h.each r hr).kind (h.each r hr).start (h3 r hr).1 (h3 r hr).2 (h.each r hr).visF)
 have HLINE:=Lib.hid (fun (r:RouM) (hr:r ∈ m.rs) (w':World) (hb:Below w.heap.size w w')=>rline_any r w' ((h.each r hr).below hb) (h3 r hr).1 (h3 r hr).2)
 have HRC:=Lib.hid h.rous
 have HUC:=Lib.hid h.uns
 have HUF:=Lib.hid h.unsF
 generalize planS m.v=J at *
 have HJ:=Lib.hid hJ
 obtain ⟨A,cA,rs,C,cC,us⟩:=m
 simp only at l1 l2 h1 h2 HLEN HLINE HRC HUC HUF HJ
 obtain ⟨ba,oa⟩:=new_at w (.cells #[.slice A rs.length cA,.slice C us.length cC] 25)
 clear h hJ h3
 go_enter Tryz.func18,Tryz.ntmps18
 simp only [B_mk]
 go_upto_region 1 with fail
 generalize w.alloc (.cells #[.slice A rs.length cA,.slice C us.length cC] 25)=wB at *
 have HB:=Lib.hid ba
 have HO:=Lib.hid oa
 clear ba oa
 go_wp2_with fail
 go_loopw [3,4] (fun s i wr=>∃ k:Nat,k≤rs.length∧i=.int .i64 k∧s=.string (B ((rs.take k).flatMap fun r=>lineS (rouWs r.r)))∧Below wB.heap.size wB wr) (fun _ i _=>rs.length - (intOf i).toNat)
 case atStart=>exact ⟨0,by omega,rfl,rfl,Below.refl _ _⟩
 case round =>
  obtain ⟨k,hk,rfl,rfl,hbel⟩:=hrel
  have HBL:=Lib.hid hbel
  by_cases hlt:k<rs.length
  ·have hkl:(k:Int)<(rs.length:Int):=by omega
   obtain ⟨g1,o1,hA1,hg1,hx1⟩:=elems RouM.cells_len (by decide) (show Cells w A (rs.flatMap RouM.cells) from HRC.out) (by omega)
   have hx3:=hx1 k hlt
   have HTK:=Lib.hid (flat_take (fun r:RouM=>lineS (rouWs r.r)) hlt)
   have HL1:=Lib.hid (HLEN.out _ (List.getElem_mem hlt))
   have HLI:=Lib.hid (HLINE.out _ (List.getElem_mem hlt))
   have hsl:=flat_le (fun r:RouM=>lineS (rouWs r.r)) (b:=40000001) (rs.take k) fun r hr=>by
    have:=HLEN.out r (List.mem_of_mem_take hr)
    unfold lineS
    rw [List.length_append];simp only [List.length_cons,List.length_nil];omega
   rw [List.length_take_of_le hk] at hsl
   have hsl:((rs.take k).flatMap fun r:RouM=>lineS (rouWs r.r)).length≤1000000000000:=by omega
   clear hx1
   generalize rs[k]=e1 at *
   have HTK:=Lib.hid (show ((rs.take k).flatMap fun r:RouM=>lineS (rouWs r.r)) ++ (joinP (rouWs e1.r) ++ [10])=_ from HTK.out)
   have hjl:=HL1.out
   generalize joinP (rouWs e1.r)=J1 at *
   generalize ((rs.take k).flatMap fun r:RouM=>lineS (rouWs r.r))=S1 at *
   have HOA:=Lib.hid (hA1 ▸ HO.out)
   have hbw:=HB.out
   obtain ⟨a0,a1⟩:=cells2 (row_keep HOA.out hbel)
   have hh:=below_lift HB.out hbel
   have c0:=(hh.cell (p:=⟨g1,o1+k*4,none⟩) hg1).trans (hx3 0 (.int .i64 e1.r.kind) rfl)
   have c1:=(hh.cell (p:=⟨g1,o1+k*4+1,none⟩) hg1).trans (hx3 1 (.int .i64 e1.r.start) rfl)
   have c2:=(hh.cell (p:=⟨g1,o1+k*4+2,none⟩) hg1).trans (hx3 2 (.slice e1.A e1.r.rests.length e1.ca) rfl)
   have c3:=(hh.cell (p:=⟨g1,o1+k*4+3,none⟩) hg1).trans (hx3 3 (.slice e1.C e1.r.vis.length e1.cc) rfl)
   have HSR:=Lib.hid (HLI.out wr hh)
   clear hA1 hx3 HLI hbw hlt hh
   go_wp2_with fail
   refine HSR.out.mono ?_
   rintro e wz ⟨rfl,hbz⟩
   have hbf:=below_lift hbel hbz
   go_wp2_with fail
   all_goals first
    |exact ⟨⟨k+1,by omega,by go_num,by rw [← HTK.out];try simp,hbf⟩,by simp [intOf];omega⟩
    |(go_roundw
      case rel=>exact ⟨k+1,by omega,by go_num,by rw [← HTK.out];try simp,hbf⟩
      case measure=>simp [intOf];omega)
  ·have hkl:¬ (k:Int)<(rs.length:Int):=by omega
   have hke:k=rs.length:=by omega
   subst hke
   rw [List.take_of_length_le (Nat.le_refl _)]
   have hsl:=flat_le (fun r:RouM=>lineS (rouWs r.r)) (b:=40000001) rs fun r hr=>by
    have:=HLEN.out r hr
    unfold lineS
    rw [List.length_append];simp only [List.length_cons,List.length_nil];omega
   have hsl:(rs.flatMap fun r:RouM=>lineS (rouWs r.r)).length≤1000000000000:=by omega
   generalize (rs.flatMap fun r:RouM=>lineS (rouWs r.r))=S0 at *
   obtain ⟨a0,a1⟩:=cells2 (row_keep HO.out hbel)
   go_wp2_with fail
   clear a0 a1
   have hV:(S0 ++ unsW).length≤1000000000010:=by rw [List.length_append];simp only [unsW,List.length_cons,List.length_nil];omega
   have HV:=Lib.hid (show ∃ V,V=S0 ++ unsW from ⟨_,rfl⟩)
   go_loopw [3,5] (fun s i wr=>∃ k:Nat,k≤us.length∧i=.int .i64 k∧s=.string (B (S0 ++ unsW ++ (us.take k).flatMap fun u=>32 :: decI u))∧Below wB.heap.size wB wr) (fun _ i _=>us.length - (intOf i).toNat)
   case atStart=>exact ⟨0,by omega,rfl,by simp,HBL.out⟩
   case round =>
    clear hk hkl hbel HBL
    obtain ⟨k,hk,rfl,rfl,hbel⟩:=hrel
    obtain ⟨a0,a1⟩:=cells2 (row_keep HO.out hbel)
    have hsl2:=flat_le (fun u:Int=>(32 :: decI u:Str)) (b:=22) (us.take k) fun u hu=>by
     have:=dec_le (HUF.out u (List.mem_of_mem_take hu))
     rw [List.length_cons];omega
    rw [List.length_take_of_le hk] at hsl2
    have hsl2:(S0 ++ unsW ++ (us.take k).flatMap fun u:Int=>(32 :: decI u:Str)).length≤2000000000000:=by rw [List.length_append];omega
    by_cases hlt:k<us.length
    ·have hkl:(k:Int)<(us.length:Int):=by omega
     obtain ⟨g1,o1,hC1,hg1,hx1⟩:=(show Cells w C (ints us) from HUC.out) (by unfold ints;rw [List.length_map];omega)
     subst hC1
     have x0:wr.cell? ⟨g1,o1+k,none⟩=some (.int .i64 us[k]):=((below_lift HB.out hbel).cell (p:=⟨g1,o1+k,none⟩) hg1).trans (hx1 k _ (by unfold ints;rw [List.getElem?_map,List.getElem?_eq_getElem hlt];rfl))
     have HTK:=Lib.hid (show S0 ++ unsW ++ ((us.take k).flatMap fun u:Int=>(32 :: decI u:Str)) ++ (32 :: decI us[k])=S0 ++ unsW ++ ((us.take (k+1)).flatMap fun u:Int=>(32 :: decI u:Str)) by rw [List.append_assoc (S0 ++ unsW),flat_take (fun u:Int=>(32 :: decI u:Str)) hlt])
     have hdl:=dec_le (HUF.out _ (List.getElem_mem hlt))
     have HDC:=Lib.hid (rdecimal_any us[k] wr (HUF.out _ (List.getElem_mem hlt)))
     clear hx1
     generalize us[k]=v at *
     generalize S0 ++ unsW ++ ((us.take k).flatMap fun u:Int=>(32 :: decI u:Str))=S1 at *
     go_wp2_with fail
     refine HDC.out.mono ?_
     rintro e w6 ⟨rfl,hb6⟩
     have hb7:=below_lift hbel hb6
     go_wp2_with fail
     first
      |exact ⟨⟨k+1,by omega,by go_num,by rw [← HTK.out],hb7⟩,by simp [intOf];omega⟩
      |(go_roundw
        case rel=>exact ⟨k+1,by omega,by go_num,by rw [← HTK.out],hb7⟩
        case measure=>simp [intOf];omega)
    ·have hkl:¬ (k:Int)<(us.length:Int):=by omega
     have hke:k=us.length:=by omega
     subst hke
     rw [List.take_of_length_le (Nat.le_refl _)] at *
     have HJ:=Lib.hid (show J=S0 ++ unsW ++ (us.flatMap fun u:Int=>(32 :: decI u:Str)) ++ [10] from HJ.out)
     generalize S0 ++ unsW ++ (us.flatMap fun u:Int=>(32 :: decI u:Str))=S1 at *
     go_wp2_with fail
     go_ret
     exact ⟨by rw [HJ.out];rfl,below_lift HB.out hbel⟩
end Go.Proofs.YtljekdpgjaahjaaGreatDoor

/- lorryref23: line, Print. -/
import Derived.Test.YtljekdpgjaahjaaGreatDoorG58
import Derived.Test.YtljekdpgjaahjaaGreatDoorG60
import Derived.Test.YtljekdpgjaahjaaGreatDoorG65
import Derived.Deep.RegionHeld3
namespace Go.Proofs.YtljekdpgjaahjaaGreatDoor
open Go.RowKit Num Txt Pf
set_option linter.unusedVariables false
attribute [local go_sem] B_size B_get B_toList B_mk B_extract B_append
theorem join_cons_flat:∀ (p:Str) (ws:List Str),joinP (p :: ws)=p ++ ws.flatMap fun x=>32 :: x
 |p,[]=>by simp [joinP]
 |p,q :: ws=>by
  rw [joinP_cons,if_neg (by simp),join_cons_flat q ws,List.flatMap_cons];simp
def ynS (b:Bool):UInt8:=if b then 121 else 110
theorem join_rou (r:RouV):joinP (rouWs r)=(routeW ++ [32]) ++ decI r.kind ++ [32] ++ decI r.start ++ [32] ++ restsW r.rests ++ r.vis.flatMap fun v=>32 :: visW v:=by
 unfold rouWs
 rw [join_cons_flat]
 simp only [List.flatMap_cons,List.flatMap_map,List.append_assoc,List.cons_append,List.nil_append]
theorem join_uns (l:List Int):joinP (unsWs l)=unsW ++ l.flatMap fun u=>32 :: decI u:=by
 unfold unsWs
 rw [join_cons_flat,List.flatMap_map]
theorem dec_le {z:Int} (h:fits z):(decI z).length≤21:=Pf.decI_len h
set_option maxHeartbeats 4000000 in
set_option maxRecDepth 100000 in
theorem rline_any (m:RouM) (w:World) (h:RouAt w m) (h1:m.r.rests.length≤6000) (h2:m.r.vis.length≤6000) :
  Calls Tryz.prog 48 #[rouA m] w fun e w'=>e=.returned (.string (B (joinP (rouWs m.r))))∧Below w.heap.size w w':=by
 obtain ⟨A,ca,C,cc,⟨kd,st,rs,vs⟩⟩:=m
 simp only at h1 h2
 obtain ⟨n1,p1⟩:=new_at w (.cells #[.int .i64 kd,.int .i64 st,.slice A rs.length ca,.slice C vs.length cc] 50)
 have hJ:=join_rou ⟨kd,st,rs,vs⟩
 generalize joinP (rouWs ⟨kd,st,rs,vs⟩)=J at *
 have HJ:=Lib.hid (show J=(routeW ++ [32]) ++ decI kd ++ [32] ++ decI st ++ [32] ++ restsW rs ++ vs.flatMap fun v=>32 :: visW v from hJ)
 have HR:=Lib.hid (h.below n1)
 have l1:=h.rl
 have l2:=h.vl
 unfold maxLen at l1 l2
 have l1:rs.length≤ca:=l1.1
 have l2:vs.length≤cc:=l2.1
 have HCC:=Lib.hid (show ca≤maxLen∧cc≤maxLen from ⟨h.rl.2,h.vl.2⟩)
 have hca:ca≤9223372036854775807:=by have:=h.rl.2;unfold maxLen at this;exact this
 have hcc:cc≤9223372036854775807:=by have:=h.vl.2;unfold maxLen at this;exact this
 clear h hJ
 go_enter Tryz.func48,Tryz.ntmps48
 simp only [B_mk]
 go_upto_region 1 with fail
 generalize w.alloc (.cells #[.int .i64 kd,.int .i64 st,.slice A rs.length ca,.slice C vs.length cc] 50)=wB at *
 have HB:=Lib.hid n1
 have HP:=Lib.hid p1
 clear n1 p1
 have hdk:=dec_le HR.out.kind
 have hds:=dec_le HR.out.start
 simp only at hdk hds
 have f1:¬ 9223372036854775807<6+(decI kd).length:=by omega
 have f2:¬ 9223372036854775807<(decI kd).length+6+1:=by omega
 have f2':¬ 9223372036854775807<(decI kd).length+1+1+1+1+1+1+1:=by omega
 have f2'':¬ 9223372036854775807<(decI kd).length+7:=by omega
 have k0:¬ 9223372036854775807<(decI kd).length+7+(decI st).length:=by omega
 have k1:¬ 9223372036854775807<(decI kd).length+1+6+(decI st).length:=by omega
 have k2:¬ 9223372036854775807<(decI kd).length+(decI st).length+7:=by omega
 have k3:¬ 9223372036854775807<(decI kd).length+1+1+1+1+1+1+1+(decI st).length:=by omega
 have k4:¬ 9223372036854775807<(decI kd).length+((decI st).length+1)+6+1:=by omega
 have k5:¬ 9223372036854775807<(decI kd).length+((decI st).length+1)+7:=by omega
 have k6:¬ 9223372036854775807<(decI kd).length+(1+(decI st).length)+6+1:=by omega
 have k7:¬ 9223372036854775807<(decI kd).length+(1+(decI st).length)+7:=by omega
 have k8:¬ 9223372036854775807<(decI kd).length+(decI st).length+8:=by omega
 have k9:¬ 9223372036854775807<(decI kd).length+7+(decI st).length+1:=by omega
 have k10:¬ 9223372036854775807<(decI kd).length+((decI st).length+1)+1+1+1+1+1+1+1:=by omega
 have HALL:=Lib.hid (show ∀ w',Below wB.heap.size wB w'→Below wB.heap.size wB w'∧w'.cell? ⟨w.heap.size,0,none⟩=some (.int .i64 kd)∧w'.cell? ⟨w.heap.size,1,none⟩=some (.int .i64 st)∧w'.cell? ⟨w.heap.size,2,none⟩=some (.slice A rs.length ca)∧w'.cell? ⟨w.heap.size,3,none⟩=some (.slice C vs.length cc) from fun w' h=>⟨h,cells4 (row_keep HP.out h)⟩)
 have hS0:=HALL.out wB.drew (Below.refl _ _).drew
 have HKP:=Lib.hid (fun (wo wn:World) (h:Below wB.heap.size wB wo∧wo.cell? ⟨w.heap.size,0,none⟩=some (.int .i64 kd)∧wo.cell? ⟨w.heap.size,1,none⟩=some (.int .i64 st)∧wo.cell? ⟨w.heap.size,2,none⟩=some (.slice A rs.length ca)∧wo.cell? ⟨w.heap.size,3,none⟩=some (.slice C vs.length cc)) (hbz:Below wo.heap.size wo wn)=>HALL.out wn (below_lift h.1 hbz))
 have HK1:=Lib.hid (fun (w':World)=>rdecimal_any kd w' HR.out.kind)
 have HK2:=Lib.hid (fun (w':World)=>rdecimal_any st w' HR.out.start)
 go_region_held3 (fun w'=>Below wB.heap.size wB w'∧w'.cell? ⟨w.heap.size,0,none⟩=some (.int .i64 kd)∧w'.cell? ⟨w.heap.size,1,none⟩=some (.int .i64 st)∧w'.cell? ⟨w.heap.size,2,none⟩=some (.slice A rs.length ca)∧w'.cell? ⟨w.heap.size,3,none⟩=some (.slice C vs.length cc))
  (first | (exact HKP.out _ _ (by assumption) hbz) | (with_reducible exact hS0))
  (first | (go_at_call 49;((with_reducible refine (HK1.out _).mono ?_);rintro e wz ⟨rfl,hbz⟩)) | (go_at_call 49;((with_reducible refine (HK2.out _).mono ?_);rintro e wz ⟨rfl,hbz⟩)))
 all_goals
  have hs:Below wB.heap.size wB wz∧wz.cell? ⟨w.heap.size,0,none⟩=some (.int .i64 kd)∧wz.cell? ⟨w.heap.size,1,none⟩=some (.int .i64 st)∧wz.cell? ⟨w.heap.size,2,none⟩=some (.slice A rs.length ca)∧wz.cell? ⟨w.heap.size,3,none⟩=some (.slice C vs.length cc):=by assumption
  have HB2:=Lib.hid hs.1
  clear HK1 HK2 HKP hS0 k0 k1 k2 k3 k4 k5 k6 k7 k8 k9 k10 f1 f2 f2' f2''
  obtain ⟨T0,hT⟩:∃ x,x=(114 :: 111 :: 117 :: 116 :: 101 :: 32 :: (decI kd ++ 32 :: (decI st ++ [32])):Str):=⟨_,rfl⟩
  rw [← hT]
  have hT0:T0.length≤60:=by rw [hT];simp only [List.length_cons,List.length_append,List.length_nil];omega
  have hJ2:J=T0 ++ restsW rs ++ vs.flatMap fun v=>32 :: visW v:=by rw [HJ.out,hT];simp
  obtain ⟨U0,hU,hU1,hU2⟩:∃ U0:Str,U0=(if rs=[] then T0 ++ [46] else T0)∧U0 ++ rs.map ynS=T0 ++ restsW rs∧U0.length≤70:=by
   refine ⟨_,rfl,?_,?_⟩
   ·by_cases h:rs=[]
    ·subst h;simp [restsW]
    ·rw [if_neg h];unfold restsW;rw [if_neg h];rfl
   ·split
    ·rw [List.length_append];simp only [List.length_cons,List.length_nil];omega
    ·omega
  have HJ2:=Lib.hid (show J=(U0 ++ rs.map ynS) ++ vs.flatMap fun v=>32 :: visW v by rw [hU1];exact hJ2)
  have HALL2:=Lib.hid HALL.out
  obtain ⟨_,e0,e1,e2,e3⟩:=hs
  clear HALL HJ hT hJ2 hU1 hdk hds
  generalize wz=w5 at *
  by_cases h0:rs=[]
  all_goals first
   |(rw [if_pos h0] at hU
     have e9:((rs.length:Int) == 0)=true:=by rw [h0];rfl
     rw [hU] at hU2 HJ2
     clear h0 hU
     go_upto_region 5 with fail
     generalize T0 ++ [46]=U1 at *)
   |(rw [if_neg h0] at hU
     have e9:((rs.length:Int) == 0)=false:=by
      have:=List.length_pos_iff.2 h0
      rw [beq_eq_false_iff_ne];omega
     rw [hU] at hU2 HJ2
     clear h0 hU
     go_upto_region 5 with fail
     generalize T0=U1 at *)
  all_goals
   go_loopw [3,4] (fun s i wr=>∃ k:Nat,k≤rs.length∧i=.int .i64 k∧s=.string (B (U1 ++ (rs.take k).map ynS))∧Below wB.heap.size wB wr) (fun _ i _=>rs.length - (intOf i).toNat)
   case atStart=>exact ⟨0,by omega,rfl,by simp,HB2.out⟩
   case round =>
    clear e0 e1 e2 e3 HB2
    obtain ⟨k,hk,rfl,rfl,hbel⟩:=hrel
    obtain ⟨_,e0,e1,e2,e3⟩:=HALL2.out _ hbel
    have HB2:=Lib.hid hbel
    by_cases hlt:k<rs.length
    ·have hlt1:(k:Int)<(rs.length:Int):=by omega
     obtain ⟨b,o,hA,hb,hx⟩:=HR.out.rests (by unfold boolsP;rw [List.length_map];exact Nat.lt_of_le_of_lt (Nat.zero_le _) hlt)
     change A=_ at hA
     subst hA
     have x0:=(HB2.out.cell (p:=⟨b,o+k,none⟩) hb).trans (hx k _ (boolsP_get rs k hlt))
     have HTK:=Lib.hid (show U1 ++ (rs.take k).map ynS ++ [ynS rs[k]]=U1 ++ (rs.take (k+1)).map ynS by rw [List.take_succ_eq_append_getElem hlt,List.map_append,List.append_assoc];rfl)
     have hsl:(U1 ++ (rs.take k).map ynS).length≤7000:=by rw [List.length_append,List.length_map,List.length_take];omega
     clear hx
     generalize rs[k]=q at *
     generalize U1 ++ (rs.take k).map ynS=S0 at *
     cases q with
     |true =>
      have HTK:=Lib.hid (show S0 ++ [121]=U1 ++ (rs.take (k+1)).map ynS from HTK.out)
      go_wp2_with fail
      all_goals first
       |exact ⟨⟨k+1,by omega,by go_num,by rw [HTK.out],HB2.out⟩,by simp [intOf];omega⟩
       |(go_roundw
         case rel=>exact ⟨k+1,by omega,by go_num,by rw [HTK.out],HB2.out⟩
         case measure=>simp [intOf];omega)
     |false =>
      have HTK:=Lib.hid (show S0 ++ [110]=U1 ++ (rs.take (k+1)).map ynS from HTK.out)
      go_wp2_with fail
      all_goals first
       |exact ⟨⟨k+1,by omega,by go_num,by rw [HTK.out],HB2.out⟩,by simp [intOf];omega⟩
       |(go_roundw
         case rel=>exact ⟨k+1,by omega,by go_num,by rw [HTK.out],HB2.out⟩
         case measure=>simp [intOf];omega)
    ·have hlt1:¬ (k:Int)<(rs.length:Int):=by omega
     have hke:k=rs.length:=by omega
     subst hke
     rw [List.take_of_length_le (Nat.le_refl _)]
     have hsl:(U1 ++ rs.map ynS).length≤7000:=by rw [List.length_append,List.length_map];omega
     generalize U1 ++ rs.map ynS=V0 at *
     go_wp2_with fail
     go_loopw [3,5,6] (fun s i _ wr=>∃ k:Nat,k≤vs.length∧i=.int .i64 k∧s=.string (B (V0 ++ (vs.take k).flatMap fun v=>32 :: visW v))∧Below wB.heap.size wB wr) (fun _ i _ _=>vs.length - (intOf i).toNat)
     case atStart=>exact ⟨0,by omega,rfl,by simp,HB2.out⟩
     case round =>
      clear e0 e1 e2 e3 hlt hlt1 hk
      obtain ⟨k,hk,rfl,rfl,hbel⟩:=hrel
      obtain ⟨_,e0,e1,e2,e3⟩:=HALL2.out _ hbel
      by_cases hlt:k<vs.length
      ·have hlt1:(k:Int)<(vs.length:Int):=by omega
       obtain ⟨b,o,hC,hb,hx⟩:=elems visC_len (by decide) HR.out.vis (show 0<vs.length by omega)
       change C=_ at hC
       subst hC
       have x0:=(hbel.cell (p:=⟨b,o+k*2,none⟩) hb).trans (hx k hlt 0 (.int .i64 vs[k].1) rfl)
       have x1:=(hbel.cell (p:=⟨b,o+k*2+1,none⟩) hb).trans (hx k hlt 1 (.bool vs[k].2) rfl)
       have HTK:=Lib.hid (show V0 ++ (vs.take k).flatMap (fun v=>32 :: visW v) ++ (32 :: visW vs[k])=V0 ++ (vs.take (k+1)).flatMap (fun v=>32 :: visW v) by rw [List.take_succ_eq_append_getElem hlt,List.flatMap_append,List.append_assoc];simp)
       have HFV:=Lib.hid (HR.out.visF _ (List.getElem_mem hlt))
       have HTL:=Lib.hid (flat_le (fun v:Int × Bool=>(32 :: visW v:Str)) (b:=30) (vs.take k) fun v hv=>by
        have:=dec_le (HR.out.visF v (List.mem_of_mem_take hv))
        show (decI v.1).length+1+1≤30
        omega)
       rw [List.length_take_of_le hk] at HTL
       have hsl2:(V0 ++ (vs.take k).flatMap (fun v=>32 :: visW v)).length≤200000:=by rw [List.length_append];have:=HTL.out;omega
       clear hx
       generalize vs[k]=v at *
       obtain ⟨vo,vd⟩:=v
       have hdl:=dec_le HFV.out
       have HDC:=Lib.hid (rdecimal_any vo wr HFV.out)
       simp only at hdl x0 x1
       generalize V0 ++ (vs.take k).flatMap (fun v=>32 :: visW v)=S1 at *
       cases vd with
       |true =>
        have HTK:=Lib.hid (show S1 ++ (32 :: 45 :: decI vo)=V0 ++ (vs.take (k+1)).flatMap (fun v=>32 :: visW v) from HTK.out)
        go_wp2_with fail
        refine HDC.out.mono ?_
        rintro e w6 ⟨rfl,hb6⟩
        have hb7:=below_lift hbel hb6
        go_wp2_with fail
        all_goals first
         |exact ⟨⟨k+1,by omega,by go_num,by rw [HTK.out],hb7⟩,by simp [intOf];omega⟩
         |(go_roundw
           case rel=>exact ⟨k+1,by omega,by go_num,by rw [HTK.out],hb7⟩
           case measure=>simp [intOf];omega)
       |false =>
        have HTK:=Lib.hid (show S1 ++ (32 :: 43 :: decI vo)=V0 ++ (vs.take (k+1)).flatMap (fun v=>32 :: visW v) from HTK.out)
        go_wp2_with fail
        refine HDC.out.mono ?_
        rintro e w6 ⟨rfl,hb6⟩
        have hb7:=below_lift hbel hb6
        go_wp2_with fail
        all_goals first
         |exact ⟨⟨k+1,by omega,by go_num,by rw [HTK.out],hb7⟩,by simp [intOf];omega⟩
         |(go_roundw
           case rel=>exact ⟨k+1,by omega,by go_num,by rw [HTK.out],hb7⟩
           case measure=>simp [intOf];omega)
      ·have hlt1:¬ (k:Int)<(vs.length:Int):=by omega
       have hke:k=vs.length:=by omega
       subst hke
       rw [List.take_of_length_le (Nat.le_refl _),← HJ2.out]
       go_wp2_with fail
       go_ret
       exact ⟨rfl,below_lift HB.out hbel⟩
end Go.Proofs.YtljekdpgjaahjaaGreatDoor

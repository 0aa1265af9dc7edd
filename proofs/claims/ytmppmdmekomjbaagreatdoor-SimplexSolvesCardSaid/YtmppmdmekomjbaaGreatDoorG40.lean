/- lorryref25: signed, rights, column, below, Proves, Refutes. (Printed by wip/rlin3.py.) -/
import Derived.Test.YtmppmdmekomjbaaGreatDoorG37
import Derived.Deep.RegionHeld3
import Derived.Test.YtmppmdmekomjbaaGreatDoorG36
namespace Go.Proofs.YtmppmdmekomjbaaGreatDoor
open Go.RowKit Num
set_option linter.unusedVariables false
attribute [local go_sem] B_size B_get B_toList B_mk B_extract B_append
attribute [local go_sem high] run_max2
set_option maxHeartbeats 2000000 in
set_option maxRecDepth 100000 in
theorem rlsigned_any (cost:List Int) (rs:List RowV) (A:Option Addr) (ca:Nat) (R:Option Addr) (cr:Nat) (xs:List Str) (X:Option Addr) (cx:Nat) (w:World) (hp:LinAt w cost rs A ca R cr) (hx:RatsAt w xs X cx) :
  Calls Tryz.prog 79 #[linV A cost.length ca R rs.length cr,.slice X xs.length cx] w fun e w'=>e=.returned (.bool (signsB (linOf cost rs) xs))∧Below w.heap.size w w':=by
 have hla:=hp.la
 have hlr:=hp.lr
 have hlx:=hx.lx
 unfold maxLen at hla hlr hlx
 have b0:=new_below w (linO A cost.length ca R rs.length cr)
 have HP:=Lib.hid hp
 have HX:=Lib.hid hx
 clear hp hx
 by_cases heq:xs.length=rs.length
 ·have HE:=Lib.hid heq
  have hq:((xs.length:Int) != (rs.length:Int))=false:=by rw [heq];simp
  clear heq
  have HBW:=Lib.hid (fun wr (h:Below (w.alloc (linO A cost.length ca R rs.length cr)).heap.size (w.alloc (linO A cost.length ca R rs.length cr)) wr)=>b0.trans (h.mono b0.size))
  have HV:=Lib.hid (show signsB (linOf cost rs) xs=(rs.zip xs).all (fun q=>signB q.1.L q.2) by rw [signs_all,HE.out];simp)
  go_enter Tryz.func79,Tryz.ntmps79
  go_wp2_with fail
  go_loopw [4,5,6] (fun _ i _ wr=>∃ k:Nat,k≤rs.length∧i=.int .i64 k∧((rs.zip xs).take k).all (fun q=>signB q.1.L q.2)=true∧Below (w.alloc (linO A cost.length ca R rs.length cr)).heap.size (w.alloc (linO A cost.length ca R rs.length cr)) wr) (fun _ i _ _=>rs.length - (intOf i).toNat)
  case atStart=>exact ⟨0,Nat.zero_le _,rfl,rfl,Below.refl _ _⟩
  case round =>
   obtain ⟨k,hk,rfl,hall,hbel0⟩:=hrel
   have HALL:=Lib.hid hall
   clear hall
   have hbel:=HBW.out wr hbel0
   by_cases hlt:k<rs.length
   ·have hlx2:k<xs.length:=by have:=HE.out;omega
    have hzl:k<(rs.zip xs).length:=by rw [List.length_zip];omega
    obtain ⟨bA,oA,rfl,hbA,hcA⟩:=HX.out.cells.at (by rw [strs_length];omega)
    obtain ⟨bR,oR,rfl,hbR,hcR⟩:=HP.out.rows.at (by omega)
    have HK:=Lib.hid (fun (w':World) (h:Below w.heap.size w w')=>(h.cell (p:=⟨bR,oR+k*3+1,none⟩) hbR).trans (hcR k hlt).2.1)
    have HC:=Lib.hid (fun (w':World) (h:Below w.heap.size w w')=>(show w'.cell? ⟨bA,oA+k,none⟩=some (.string (B xs[k])) by
     rw [h.cell (p:=⟨bA,oA+k,none⟩) hbA,hcA k (by rw [strs_length];exact hlx2)];simp [strs]))
    clear hcR hcA
    have hxl:=HX.out.len xs[k] (List.getElem_mem hlx2)
    have HR:=Lib.hid (fun (w:World)=>rrq_any xs[k] w (by omega))
    have HS:=Lib.hid (fun (w:World)=>rqsign_any xs[k] w (by omega))
    have hz:(rs.zip xs)[k]=(rs[k],xs[k]):=List.getElem_zip
    have HT:=Lib.hid (fun h=>all_take (f:=fun q:RowV × Str=>signB q.1.L q.2) hzl HALL.out (by rw [hz];exact h))
    have HB:=Lib.hid (fun h=>all_bad (f:=fun q:RowV × Str=>signB q.1.L q.2) hzl (by rw [hz];exact h))
    have HRW:=Lib.hid (show signB rs[k].L xs[k]=(rightQ xs[k] && !(decide (rs[k].L.kind=1) && decide (0<signQ xs[k])) && !(decide (rs[k].L.kind=3) && decide (signQ xs[k]<0))) from rfl)
    clear hz
    generalize xs[k]=x at *
    generalize rs[k]=r at *
    generalize signQ x=sg at *
    generalize hrk:rightQ x=rk at *
    have hbB:=hbel
    have hbB0:=hbel0
    have hd1:=HC.out _ hbB
    obtain ⟨d0,d1,d2⟩:=lin_cells hbel0
    cases rk
    ·skip
     have HBB:=Lib.hid (show signsB _ xs=false by rw [HV.out,HB.out (by rw [HRW.out];rfl)])
     go_wp2_with fail
     refine (HS.out _).mono ?_
     rintro e w2 ⟨rfl,hb2⟩
     have a2:=hbB.trans (hb2.mono hbB.size)
     have hd2:=HC.out _ a2
     go_wp2_with fail
     refine (HR.out _).mono ?_
     rintro e w3 ⟨rfl,hb3⟩
     have a3:=a2.trans (hb3.mono a2.size)
     have e1:=HK.out w3 a3
     clear hd1 hd2 d0 d1 d2
     obtain ⟨d0,d1,d2⟩:=lin_cells ((hbB0.trans (hb2.mono hbB0.size)).trans (hb3.mono (Nat.le_trans hbB0.size hb2.size)))
     go_wp2_with fail
     go_ret
     exact ⟨ret_bool HBB.out.symm,a3⟩
    ·by_cases k1:r.L.kind=1
     ·have k1b:(r.L.kind == 1)=true:=by simpa using k1
      have k3b:(r.L.kind == 3)=false:=by rw [k1];rfl
      by_cases hs:0<sg
      ·skip
       have HBB:=Lib.hid (show signsB _ xs=false by rw [HV.out,HB.out (by rw [HRW.out];simp [k1,hs])])
       clear k1
       go_wp2_with fail
       refine (HS.out _).mono ?_
       rintro e w2 ⟨rfl,hb2⟩
       have a2:=hbB.trans (hb2.mono hbB.size)
       have hd2:=HC.out _ a2
       go_wp2_with fail
       refine (HR.out _).mono ?_
       rintro e w3 ⟨rfl,hb3⟩
       have a3:=a2.trans (hb3.mono a2.size)
       have e1:=HK.out w3 a3
       clear hd1 hd2 d0 d1 d2
       obtain ⟨d0,d1,d2⟩:=lin_cells ((hbB0.trans (hb2.mono hbB0.size)).trans (hb3.mono (Nat.le_trans hbB0.size hb2.size)))
       go_wp2_with fail
       go_ret
       exact ⟨ret_bool HBB.out.symm,a3⟩
      ·skip
       have HBB:=Lib.hid (HT.out (by rw [HRW.out];simp [k1,hs]))
       clear k1
       go_wp2_with fail
       refine (HS.out _).mono ?_
       rintro e w2 ⟨rfl,hb2⟩
       have a2:=hbB.trans (hb2.mono hbB.size)
       have hd2:=HC.out _ a2
       go_wp2_with fail
       refine (HR.out _).mono ?_
       rintro e w3 ⟨rfl,hb3⟩
       have a3:=a2.trans (hb3.mono a2.size)
       have e1:=HK.out w3 a3
       clear hd1 hd2 d0 d1 d2
       obtain ⟨d0,d1,d2⟩:=lin_cells ((hbB0.trans (hb2.mono hbB0.size)).trans (hb3.mono (Nat.le_trans hbB0.size hb2.size)))
       go_wp2_with fail
       go_roundw
       case rel=>exact ⟨k+1,by omega,by go_num,HBB.out,(hbB0.trans (hb2.mono hbB0.size)).trans (hb3.mono (Nat.le_trans hbB0.size hb2.size))⟩
       case measure=>simp [intOf];omega
     ·have k1b:(r.L.kind == 1)=false:=by simpa using k1
      by_cases k3:r.L.kind=3
      ·have k3b:(r.L.kind == 3)=true:=by simpa using k3
       by_cases hs:sg<0
       ·skip
        have HBB:=Lib.hid (show signsB _ xs=false by rw [HV.out,HB.out (by rw [HRW.out];simp [k3,hs])])
        clear k3
        go_wp2_with fail
        refine (HS.out _).mono ?_
        rintro e w2 ⟨rfl,hb2⟩
        have a2:=hbB.trans (hb2.mono hbB.size)
        have hd2:=HC.out _ a2
        go_wp2_with fail
        refine (HR.out _).mono ?_
        rintro e w3 ⟨rfl,hb3⟩
        have a3:=a2.trans (hb3.mono a2.size)
        have e1:=HK.out w3 a3
        clear hd1 hd2 d0 d1 d2
        obtain ⟨d0,d1,d2⟩:=lin_cells ((hbB0.trans (hb2.mono hbB0.size)).trans (hb3.mono (Nat.le_trans hbB0.size hb2.size)))
        go_wp2_with fail
        go_ret
        exact ⟨ret_bool HBB.out.symm,a3⟩
       ·skip
        have HBB:=Lib.hid (HT.out (by rw [HRW.out];simp [k3,hs]))
        clear k3
        go_wp2_with fail
        refine (HS.out _).mono ?_
        rintro e w2 ⟨rfl,hb2⟩
        have a2:=hbB.trans (hb2.mono hbB.size)
        have hd2:=HC.out _ a2
        go_wp2_with fail
        refine (HR.out _).mono ?_
        rintro e w3 ⟨rfl,hb3⟩
        have a3:=a2.trans (hb3.mono a2.size)
        have e1:=HK.out w3 a3
        clear hd1 hd2 d0 d1 d2
        obtain ⟨d0,d1,d2⟩:=lin_cells ((hbB0.trans (hb2.mono hbB0.size)).trans (hb3.mono (Nat.le_trans hbB0.size hb2.size)))
        go_wp2_with fail
        go_roundw
        case rel=>exact ⟨k+1,by omega,by go_num,HBB.out,(hbB0.trans (hb2.mono hbB0.size)).trans (hb3.mono (Nat.le_trans hbB0.size hb2.size))⟩
        case measure=>simp [intOf];omega
      ·have k3b:(r.L.kind == 3)=false:=by simpa using k3
       have HBB:=Lib.hid (HT.out (by rw [HRW.out];simp [k1,k3]))
       go_wp2_with fail
       refine (HS.out _).mono ?_
       rintro e w2 ⟨rfl,hb2⟩
       have a2:=hbB.trans (hb2.mono hbB.size)
       have hd2:=HC.out _ a2
       go_wp2_with fail
       refine (HR.out _).mono ?_
       rintro e w3 ⟨rfl,hb3⟩
       have a3:=a2.trans (hb3.mono a2.size)
       have e1:=HK.out w3 a3
       clear hd1 hd2 d0 d1 d2
       obtain ⟨d0,d1,d2⟩:=lin_cells ((hbB0.trans (hb2.mono hbB0.size)).trans (hb3.mono (Nat.le_trans hbB0.size hb2.size)))
       go_wp2_with fail
       go_roundw
       case rel=>exact ⟨k+1,by omega,by go_num,HBB.out,(hbB0.trans (hb2.mono hbB0.size)).trans (hb3.mono (Nat.le_trans hbB0.size hb2.size))⟩
       case measure=>simp [intOf];omega
   ·have hkx:k=rs.length:=by omega
    have HA:=Lib.hid (show signsB (linOf cost rs) xs=true by
     rw [HV.out];have:=HALL.out
     rwa [List.take_of_length_le (by rw [List.length_zip];omega)] at this)
    have hkx2:¬ k<xs.length:=by have:=HE.out;omega
    clear hkx
    obtain ⟨d0,d1,d2⟩:=lin_cells hbel0
    go_wp2_with fail
    go_ret
    exact ⟨ret_bool HA.out.symm,hbel⟩
 ·have hne:((xs.length:Int) != (rs.length:Int))=true:=by rw [bne_iff_ne];omega
  have HV:=Lib.hid (show signsB (linOf cost rs) xs=false by rw [signs_all];simp [heq])
  clear heq
  go_enter Tryz.func79,Tryz.ntmps79
  go_wp2_with fail
  go_ret
  exact ⟨ret_bool HV.out.symm,b0⟩
set_option maxHeartbeats 2000000 in
set_option maxRecDepth 100000 in
theorem rrights_any (cost:List Int) (rs:List RowV) (A:Option Addr) (ca:Nat) (R:Option Addr) (cr:Nat) (w:World) (hm:rs.length≤1000000) (hp:LinAt w cost rs A ca R cr) :
  Calls Tryz.prog 81 #[linV A cost.length ca R rs.length cr] w fun e w'=>(∃ Z c,e=.returned (.slice Z (rightsL (linOf cost rs)).length c)∧OwnS w' w.heap.size 3 Z (rightsL (linOf cost rs)).length c (ints (rightsL (linOf cost rs))))∧Below w.heap.size w w':=by
 have hla:=hp.la
 have hlr:=hp.lr
 unfold maxLen at hla hlr
 have b0:=new_below w (linO A cost.length ca R rs.length cr)
 have HP:=Lib.hid hp
 have HRL:=Lib.hid (rights_len cost rs)
 have HRA:=Lib.hid (rights_at cost rs)
 generalize rightsL (linOf cost rs)=ns at *
 clear hp
 have HBW:=Lib.hid (fun wr (h:Below (w.alloc (linO A cost.length ca R rs.length cr)).heap.size (w.alloc (linO A cost.length ca R rs.length cr)) wr)=>b0.trans (h.mono b0.size))
 go_enter Tryz.func81,Tryz.ntmps81
 go_wp2_with fail
 go_loopw [3,4] (fun v i wr=>∃ (k:Nat) (A2:Option Addr) (c2:Nat),k≤rs.length∧i=.int .i64 k∧v=.slice A2 k c2∧OwnS wr (w.alloc (linO A cost.length ca R rs.length cr)).heap.size 3 A2 k c2 (ints (ns.take k))∧Below (w.alloc (linO A cost.length ca R rs.length cr)).heap.size (w.alloc (linO A cost.length ca R rs.length cr)) wr) (fun _ i _=>rs.length - (intOf i).toNat)
 case atStart=>exact ⟨0,none,0,Nat.zero_le _,rfl,rfl,OwnS.nil _ _ _,Below.refl _ _⟩
 case round =>
  obtain ⟨k,A2,c2,hk,rfl,rfl,hown,hbel0⟩:=hrel
  have hbel:=HBW.out wr hbel0
  obtain ⟨d0,d1,d2⟩:=lin_cells hbel0
  by_cases hlt:k<rs.length
  ·obtain ⟨bR,oR,rfl,hbR,hcR⟩:=HP.out.rows.at (by omega)
   have hc2:=(hbel.cell (p:=⟨bR,oR+k*3+2,none⟩) hbR).trans (hcR k hlt).2.2
   clear hcR
   have HTK:=Lib.hid (ints_take (HRA.out k hlt))
   generalize rs[k]=r at *
   have hcap:=hown.cap
   go_wp2_with (at_builtin;refine wp_app1 el_int rfl _ _ rfl (w.alloc (linO A cost.length ca (some ⟨bR,oR,none⟩) rs.length cr)).heap.size _ _ _ _ _ (.int .i64 r.L.right) rfl hown rfl rfl (by unfold maxLen;omega) (by omega) hbel0.size ?_;intro A3 c3 w3 hown3 hb3)
   go_roundw
   case rel=>exact ⟨k+1,A3,c3,by omega,by go_num,rfl,by rw [HTK.out] at hown3;exact hown3,hbel0.trans hb3⟩
   case measure=>simp [intOf];omega
  ·have hkx:k=rs.length:=by omega
   have HNS:=Lib.hid (show ns.take k=ns by rw [hkx,← HRL.out,List.take_length])
   rw [HNS.out] at hown
   have HN:=Lib.hid (show k=ns.length by have:=HRL.out;omega)
   clear hkx
   go_wp2_with fail
   go_ret
   exact ⟨⟨A2,c2,by rw [← HN.out];rfl,by rw [← HN.out];exact hown.mono b0.size⟩,hbel⟩
set_option maxHeartbeats 2000000 in
set_option maxRecDepth 100000 in
theorem rcolumn_any (cost:List Int) (rs:List RowV) (A:Option Addr) (ca:Nat) (R:Option Addr) (cr:Nat) (i:Nat) (w:World) (hm:rs.length≤1000000) (hwf:∀ r ∈ rs,r.L.coef.length=cost.length) (hi:i<cost.length) (hp:LinAt w cost rs A ca R cr) :
  Calls Tryz.prog 118 #[linV A cost.length ca R rs.length cr,.int .i64 i] w fun e w'=>(∃ Z c,e=.returned (.slice Z (col (linOf cost rs) i).length c)∧OwnS w' w.heap.size 3 Z (col (linOf cost rs) i).length c (ints (col (linOf cost rs) i)))∧Below w.heap.size w w':=by
 have hla:=hp.la
 have hlr:=hp.lr
 unfold maxLen at hla hlr
 have b0:=new_below w (linO A cost.length ca R rs.length cr)
 have HP:=Lib.hid hp
 have HWF:=Lib.hid hwf
 have HCL:=Lib.hid (col_len cost rs i)
 have HCA:=Lib.hid (col_at cost rs i)
 generalize col (linOf cost rs) i=ns at *
 clear hp hwf
 have HBW:=Lib.hid (fun wr (h:Below (w.alloc (linO A cost.length ca R rs.length cr)).heap.size (w.alloc (linO A cost.length ca R rs.length cr)) wr)=>b0.trans (h.mono b0.size))
 go_enter Tryz.func118,Tryz.ntmps118
 go_wp2_with fail
 go_loopw [5,6,7] (fun v j _ wr=>∃ (k:Nat) (A2:Option Addr) (c2:Nat),k≤rs.length∧j=.int .i64 k∧v=.slice A2 k c2∧OwnS wr (w.alloc (linO A cost.length ca R rs.length cr)).heap.size 3 A2 k c2 (ints (ns.take k))∧Below (w.alloc (linO A cost.length ca R rs.length cr)).heap.size (w.alloc (linO A cost.length ca R rs.length cr)) wr) (fun _ j _ _=>rs.length - (intOf j).toNat)
 case atStart=>exact ⟨0,none,0,Nat.zero_le _,rfl,rfl,OwnS.nil _ _ _,Below.refl _ _⟩
 case round =>
  obtain ⟨k,A2,c2,hk,rfl,rfl,hown,hbel0⟩:=hrel
  have hbel:=HBW.out wr hbel0
  obtain ⟨d0,d1,d2⟩:=lin_cells hbel0
  by_cases hlt:k<rs.length
  ·obtain ⟨bR,oR,rfl,hbR,hcR⟩:=HP.out.rows.at (by omega)
   have hc0:=(hbel.cell (p:=⟨bR,oR+k*3,none⟩) hbR).trans (hcR k hlt).1
   clear hcR
   have hmr:=List.getElem_mem hlt
   have hrw:=HWF.out rs[k] hmr
   have hrc:=(HP.out.rows.2 rs[k] hmr).below hbel
   have hrk:=HP.out.ok rs[k] hmr
   have htk:=HCA.out k hlt
   generalize rs[k]=r at *
   have hil:i<r.L.coef.length:=by omega
   have hrl1:=hrk.1
   have hrl2:=hrk.2.1
   unfold maxLen at hrl2
   obtain ⟨bC,oC,hCe,hcc⟩:=ints_at hrc hil
   rw [show r.L.coef.getD i 0=r.L.coef[i] by rw [List.getD_eq_getElem?_getD,List.getElem?_eq_getElem hil];rfl] at htk
   have HTK:=Lib.hid (ints_take htk)
   clear htk hrk hrc hmr hrw
   generalize r.L.coef[i]=n at *
   rw [hCe] at hc0
   have hcap:=hown.cap
   go_wp2_with (at_builtin;refine wp_app1 el_int rfl _ _ rfl (w.alloc (linO A cost.length ca (some ⟨bR,oR,none⟩) rs.length cr)).heap.size _ _ _ _ _ (.int .i64 n) rfl hown rfl rfl (by unfold maxLen;omega) (by omega) hbel0.size ?_;intro A3 c3 w3 hown3 hb3)
   go_roundw
   case rel=>exact ⟨k+1,A3,c3,by omega,by go_num,rfl,by rw [HTK.out] at hown3;exact hown3,hbel0.trans hb3⟩
   case measure=>simp [intOf];omega
  ·have hkx:k=rs.length:=by omega
   have HNS:=Lib.hid (show ns.take k=ns by rw [hkx,← HCL.out,List.take_length])
   rw [HNS.out] at hown
   have HN:=Lib.hid (show k=ns.length by have:=HCL.out;omega)
   clear hkx
   go_wp2_with fail
   go_ret
   exact ⟨⟨A2,c2,by rw [← HN.out];rfl,by rw [← HN.out];exact hown.mono b0.size⟩,hbel⟩
theorem fold_err (ns:List Int):∀ (xs:List Str) (s:Str),(foldT s ns xs).2≠0→(foldT s ns xs).1=[]:=by
 induction ns with
 | nil=>intro xs s h;unfold foldT at h;exact absurd rfl h
 | cons n ns ih =>
  intro xs s h
  cases xs with
  | nil=>unfold foldT at h;exact absurd rfl h
  | cons x xs =>
   unfold foldT at h ⊢
   split
   ·rename_i h1
    rw [if_pos h1] at h
    split
    ·rename_i h2
     rw [if_pos h2] at h
     exact ih xs _ h
    ·rfl
   ·rfl
theorem times_err {ns:List Int} {xs:List Str} (h:(timesQ ns xs).2≠0):(timesQ ns xs).1=[]:=by
 unfold timesQ at h ⊢
 split
 ·rename_i h1
  rw [if_pos h1] at h
  split
  ·rename_i h2
   rw [if_pos h2] at h
   exact fold_err _ _ _ h
  ·rfl
 ·rfl
set_option maxHeartbeats 4000000 in
set_option maxRecDepth 100000 in
theorem rlbelow1_any (cost:List Int) (rs:List RowV) (A:Option Addr) (ca:Nat) (R:Option Addr) (cr:Nat) (xs:List Str) (X:Option Addr) (cx:Nat) (w:World) (hm:rs.length≤1000000) (hwf:∀ r ∈ rs,r.L.coef.length=cost.length) (hp:LinAt w cost rs A ca R cr) (hx:RatsAt w xs X cx) :
  Calls Tryz.prog 80 #[linV A cost.length ca R rs.length cr,.slice X xs.length cx,.bool true] w fun e w'=>e=.returned (.bool (belowB (linOf cost rs) xs cost))∧Below w.heap.size w w':=by
 have hla:=hp.la
 have hlr:=hp.lr
 have hlx:=hx.lx
 unfold maxLen at hla hlr hlx
 have b0:=new_below w (linO A cost.length ca R rs.length cr)
 have HP:=Lib.hid hp
 have HX:=Lib.hid hx
 have HWF:=Lib.hid hwf
 clear hp hx hwf
 have HBW:=Lib.hid (fun wr (h:Below (w.alloc (linO A cost.length ca R rs.length cr)).heap.size (w.alloc (linO A cost.length ca R rs.length cr)) wr)=>b0.trans (h.mono b0.size))
 have HV:=Lib.hid (show belowB (linOf cost rs) xs cost=(List.range cost.length).all (colB (linOf cost rs) xs cost) from rfl)
 have HO0:=Lib.hid (fun (w:World)=>rqof_any 0 w fits_zero)
 go_enter Tryz.func80,Tryz.ntmps80
 go_wp2_with fail
 go_loopw [6,7,8,9,10] (fun _ i _ _ _ wr=>∃ k:Nat,k≤cost.length∧i=.int .i64 k∧(List.range k).all (colB (linOf cost rs) xs cost)=true∧Below (w.alloc (linO A cost.length ca R rs.length cr)).heap.size (w.alloc (linO A cost.length ca R rs.length cr)) wr) (fun _ i _ _ _ _=>cost.length - (intOf i).toNat)
 case atStart=>exact ⟨0,Nat.zero_le _,rfl,rfl,Below.refl _ _⟩
 case round =>
  obtain ⟨i,hk,rfl,hall,hbel0⟩:=hrel
  have HALL:=Lib.hid hall
  clear hall
  have hbel:=HBW.out wr hbel0
  obtain ⟨d0,d1,d2⟩:=lin_cells hbel0
  by_cases hlt:i<cost.length
  ·have HT:=Lib.hid (fun h=>range_all (f:=colB (linOf cost rs) xs cost) HALL.out h)
   have HB:=Lib.hid (fun h=>range_bad (f:=colB (linOf cost rs) xs cost) hlt h)
   have HCF:=Lib.hid (col_fits cost i HP.out.ok)
   have HCO:=Lib.hid (fun (w:World) (hp:LinAt w cost rs A ca R cr)=>rcolumn_any cost rs A ca R cr i w hm HWF.out hlt hp)
   have HCL:=Lib.hid (col_len cost rs i)
   have HRW:=Lib.hid (show colB (linOf cost rs) xs cost i=(decide ((timesQ (col (linOf cost rs) i) xs).2=0) && decide (cmpQ (timesQ (col (linOf cost rs) i) xs).1 (decI (cost[i]))≤0)) from by unfold colB;rw [show cost.getD i 0=cost[i] by rw [List.getD_eq_getElem?_getD,List.getElem?_eq_getElem hlt];rfl])
   generalize col (linOf cost rs) i=ns at *
   have HTM:=Lib.hid (fun (Z:Option Addr) (cz:Nat) (w:World) (hZ:Cells w Z (ints ns)) (hcz:ns.length≤cz∧cz≤maxLen) (hx:RatsAt w xs X cx)=>rqtimes_any ns xs Z X cz cx w hZ hx.cells (by have:=HCL.out;unfold maxLen;omega) (by unfold maxLen;omega) HCF.out hx.len)
   have hvl:=times_len ns xs
   have hfl:fits (cost[i]):=HP.out.fit _ (List.getElem_mem hlt)
   have hdl:=fits_len hfl
   generalize timesQ ns xs=v at *
   obtain ⟨v1,v2⟩:=v
   have hvl1:v1.length≤8194:=hvl
   clear hvl
   have HO:=Lib.hid (fun (w:World)=>rqof_any (cost[i]) w hfl)
   have HCM:=Lib.hid (fun (w:World)=>rqcmp_any v1 (decI (cost[i])) w (by omega) (by omega))
   obtain ⟨bC,oC,rfl,hbC,hcC⟩:=HP.out.cells.at (by rw [ints_length];omega)
   have HCC:=Lib.hid (fun (w':World) (h:Below w.heap.size w w')=>(show w'.cell? ⟨bC,oC+i,none⟩=some (.int .i64 cost[i]) by
    rw [h.cell (p:=⟨bC,oC+i,none⟩) hbC,hcC i (by rw [ints_length];exact hlt)];simp [ints]))
   generalize cost[i]=lv at *
   by_cases hv:v2=0
   ·subst hv
    by_cases hg:0<cmpQ v1 (decI (lv))
    ·have HBB:=Lib.hid (show belowB (linOf cost rs) xs cost=false by rw [HV.out,HB.out (by rw [HRW.out];simp;omega)])
     generalize cmpQ v1 (decI (lv))=cq at *
     go_wp2_with fail
     refine (HO0.out _).mono ?_
     rintro e w1 ⟨rfl,hb1⟩
     have c1:=hbel0.trans (hb1.mono hbel0.size)
     clear d0 d1 d2
     obtain ⟨d0,d1,d2⟩:=lin_cells c1
     have hcc1:=HCC.out _ (HBW.out _ c1)
     go_wp2_with fail
     refine (HO.out _).mono ?_
     rintro e w2 ⟨rfl,hb2⟩
     have c2:=c1.trans (hb2.mono c1.size)
     clear d0 d1 d2 hcc1
     obtain ⟨d0,d1,d2⟩:=lin_cells c2
     go_wp2_with fail
     refine (HCO.out _ (HP.out.below (HBW.out _ c2))).mono ?_
     rintro e w3 ⟨⟨Z,cz,rfl,hz⟩,hb3⟩
     have hzc:=hz.cap
     have hz2:=cells_ints' rfl hz
     have c3:=c2.trans (hb3.mono c2.size)
     clear hz d0 d1 d2
     go_wp2_with fail
     refine (HTM.out Z cz w3 hz2 hzc (HX.out.below (HBW.out _ c3))).mono ?_
     rintro e w4 ⟨rfl,hb4⟩
     have c4:=c3.trans (hb4.mono c3.size)
     go_wp2_with fail
     refine (HCM.out _).mono ?_
     rintro e w5 ⟨rfl,hb5⟩
     go_wp2_with fail
     go_ret
     exact ⟨ret_bool HBB.out.symm,HBW.out _ (c4.trans (hb5.mono c4.size))⟩
    ·have HBB:=Lib.hid (HT.out (by rw [HRW.out];simp;omega))
     generalize cmpQ v1 (decI (lv))=cq at *
     go_wp2_with fail
     refine (HO0.out _).mono ?_
     rintro e w1 ⟨rfl,hb1⟩
     have c1:=hbel0.trans (hb1.mono hbel0.size)
     clear d0 d1 d2
     obtain ⟨d0,d1,d2⟩:=lin_cells c1
     have hcc1:=HCC.out _ (HBW.out _ c1)
     go_wp2_with fail
     refine (HO.out _).mono ?_
     rintro e w2 ⟨rfl,hb2⟩
     have c2:=c1.trans (hb2.mono c1.size)
     clear d0 d1 d2 hcc1
     obtain ⟨d0,d1,d2⟩:=lin_cells c2
     go_wp2_with fail
     refine (HCO.out _ (HP.out.below (HBW.out _ c2))).mono ?_
     rintro e w3 ⟨⟨Z,cz,rfl,hz⟩,hb3⟩
     have hzc:=hz.cap
     have hz2:=cells_ints' rfl hz
     have c3:=c2.trans (hb3.mono c2.size)
     clear hz d0 d1 d2
     go_wp2_with fail
     refine (HTM.out Z cz w3 hz2 hzc (HX.out.below (HBW.out _ c3))).mono ?_
     rintro e w4 ⟨rfl,hb4⟩
     have c4:=c3.trans (hb4.mono c3.size)
     go_wp2_with fail
     refine (HCM.out _).mono ?_
     rintro e w5 ⟨rfl,hb5⟩
     go_wp2_with fail
     go_roundw
     case rel=>exact ⟨i+1,by omega,by go_num,HBB.out,c4.trans (hb5.mono c4.size)⟩
     case measure=>simp [intOf];omega
   ·have hv1:(v2 != 0)=true:=by simpa using hv
    have HBB:=Lib.hid (show belowB (linOf cost rs) xs cost=false by rw [HV.out,HB.out (by rw [HRW.out];simp [hv])])
    clear hv
    go_wp2_with fail
    refine (HO0.out _).mono ?_
    rintro e w1 ⟨rfl,hb1⟩
    have c1:=hbel0.trans (hb1.mono hbel0.size)
    clear d0 d1 d2
    obtain ⟨d0,d1,d2⟩:=lin_cells c1
    have hcc1:=HCC.out _ (HBW.out _ c1)
    go_wp2_with fail
    refine (HO.out _).mono ?_
    rintro e w2 ⟨rfl,hb2⟩
    have c2:=c1.trans (hb2.mono c1.size)
    clear d0 d1 d2 hcc1
    obtain ⟨d0,d1,d2⟩:=lin_cells c2
    go_wp2_with fail
    refine (HCO.out _ (HP.out.below (HBW.out _ c2))).mono ?_
    rintro e w3 ⟨⟨Z,cz,rfl,hz⟩,hb3⟩
    have hzc:=hz.cap
    have hz2:=cells_ints' rfl hz
    have c3:=c2.trans (hb3.mono c2.size)
    clear hz d0 d1 d2
    go_wp2_with fail
    refine (HTM.out Z cz w3 hz2 hzc (HX.out.below (HBW.out _ c3))).mono ?_
    rintro e w4 ⟨rfl,hb4⟩
    have c4:=c3.trans (hb4.mono c3.size)
    go_wp2_with fail
    go_ret
    exact ⟨ret_bool HBB.out.symm,HBW.out _ c4⟩
  ·have hkx:i=cost.length:=by omega
   have HA:=Lib.hid (show belowB (linOf cost rs) xs cost=true by rw [HV.out,← hkx];exact HALL.out)
   clear hkx
   go_wp2_with fail
   go_ret
   exact ⟨ret_bool HA.out.symm,hbel⟩
set_option maxHeartbeats 4000000 in
set_option maxRecDepth 100000 in
theorem rlbelow2_any (cost:List Int) (rs:List RowV) (A:Option Addr) (ca:Nat) (R:Option Addr) (cr:Nat) (xs:List Str) (X:Option Addr) (cx:Nat) (w:World) (hm:rs.length≤1000000) (hwf:∀ r ∈ rs,r.L.coef.length=cost.length) (hp:LinAt w cost rs A ca R cr) (hx:RatsAt w xs X cx) :
  Calls Tryz.prog 80 #[linV A cost.length ca R rs.length cr,.slice X xs.length cx,.bool false] w fun e w'=>e=.returned (.bool (belowB (linOf cost rs) xs []))∧Below w.heap.size w w':=by
 have hla:=hp.la
 have hlr:=hp.lr
 have hlx:=hx.lx
 unfold maxLen at hla hlr hlx
 have b0:=new_below w (linO A cost.length ca R rs.length cr)
 have HP:=Lib.hid hp
 have HX:=Lib.hid hx
 have HWF:=Lib.hid hwf
 clear hp hx hwf
 have HBW:=Lib.hid (fun wr (h:Below (w.alloc (linO A cost.length ca R rs.length cr)).heap.size (w.alloc (linO A cost.length ca R rs.length cr)) wr)=>b0.trans (h.mono b0.size))
 have HV:=Lib.hid (show belowB (linOf cost rs) xs []=(List.range cost.length).all (colB (linOf cost rs) xs []) from rfl)
 have HO0:=Lib.hid (fun (w:World)=>rqof_any 0 w fits_zero)
 go_enter Tryz.func80,Tryz.ntmps80
 go_wp2_with fail
 go_loopw [6,7,8,9,10] (fun _ i _ _ _ wr=>∃ k:Nat,k≤cost.length∧i=.int .i64 k∧(List.range k).all (colB (linOf cost rs) xs [])=true∧Below (w.alloc (linO A cost.length ca R rs.length cr)).heap.size (w.alloc (linO A cost.length ca R rs.length cr)) wr) (fun _ i _ _ _ _=>cost.length - (intOf i).toNat)
 case atStart=>exact ⟨0,Nat.zero_le _,rfl,rfl,Below.refl _ _⟩
 case round =>
  obtain ⟨i,hk,rfl,hall,hbel0⟩:=hrel
  have HALL:=Lib.hid hall
  clear hall
  have hbel:=HBW.out wr hbel0
  obtain ⟨d0,d1,d2⟩:=lin_cells hbel0
  by_cases hlt:i<cost.length
  ·have HT:=Lib.hid (fun h=>range_all (f:=colB (linOf cost rs) xs []) HALL.out h)
   have HB:=Lib.hid (fun h=>range_bad (f:=colB (linOf cost rs) xs []) hlt h)
   have HCF:=Lib.hid (col_fits cost i HP.out.ok)
   have HCO:=Lib.hid (fun (w:World) (hp:LinAt w cost rs A ca R cr)=>rcolumn_any cost rs A ca R cr i w hm HWF.out hlt hp)
   have HCL:=Lib.hid (col_len cost rs i)
   have HRW:=Lib.hid (show colB (linOf cost rs) xs [] i=(decide ((timesQ (col (linOf cost rs) i) xs).2=0) && decide (cmpQ (timesQ (col (linOf cost rs) i) xs).1 (decI (0))≤0)) from rfl)
   generalize col (linOf cost rs) i=ns at *
   have HTM:=Lib.hid (fun (Z:Option Addr) (cz:Nat) (w:World) (hZ:Cells w Z (ints ns)) (hcz:ns.length≤cz∧cz≤maxLen) (hx:RatsAt w xs X cx)=>rqtimes_any ns xs Z X cz cx w hZ hx.cells (by have:=HCL.out;unfold maxLen;omega) (by unfold maxLen;omega) HCF.out hx.len)
   have hvl:=times_len ns xs
   have hfl:fits (0):=fits_zero
   have hdl:=fits_len hfl
   generalize timesQ ns xs=v at *
   obtain ⟨v1,v2⟩:=v
   have hvl1:v1.length≤8194:=hvl
   clear hvl
   have HO:=Lib.hid (fun (w:World)=>rqof_any (0) w hfl)
   have HCM:=Lib.hid (fun (w:World)=>rqcmp_any v1 (decI (0)) w (by omega) (by omega))
   skip
   by_cases hv:v2=0
   ·subst hv
    by_cases hg:0<cmpQ v1 (decI (0))
    ·have HBB:=Lib.hid (show belowB (linOf cost rs) xs []=false by rw [HV.out,HB.out (by rw [HRW.out];simp;omega)])
     generalize cmpQ v1 (decI (0))=cq at *
     go_wp2_with fail
     refine (HO0.out _).mono ?_
     rintro e w1 ⟨rfl,hb1⟩
     have c1:=hbel0.trans (hb1.mono hbel0.size)
     clear d0 d1 d2
     obtain ⟨d0,d1,d2⟩:=lin_cells c1
     have c2:=c1
     go_wp2_with fail
     refine (HCO.out _ (HP.out.below (HBW.out _ c2))).mono ?_
     rintro e w3 ⟨⟨Z,cz,rfl,hz⟩,hb3⟩
     have hzc:=hz.cap
     have hz2:=cells_ints' rfl hz
     have c3:=c2.trans (hb3.mono c2.size)
     clear hz d0 d1 d2
     go_wp2_with fail
     refine (HTM.out Z cz w3 hz2 hzc (HX.out.below (HBW.out _ c3))).mono ?_
     rintro e w4 ⟨rfl,hb4⟩
     have c4:=c3.trans (hb4.mono c3.size)
     go_wp2_with fail
     refine (HCM.out _).mono ?_
     rintro e w5 ⟨rfl,hb5⟩
     go_wp2_with fail
     go_ret
     exact ⟨ret_bool HBB.out.symm,HBW.out _ (c4.trans (hb5.mono c4.size))⟩
    ·have HBB:=Lib.hid (HT.out (by rw [HRW.out];simp;omega))
     generalize cmpQ v1 (decI (0))=cq at *
     go_wp2_with fail
     refine (HO0.out _).mono ?_
     rintro e w1 ⟨rfl,hb1⟩
     have c1:=hbel0.trans (hb1.mono hbel0.size)
     clear d0 d1 d2
     obtain ⟨d0,d1,d2⟩:=lin_cells c1
     have c2:=c1
     go_wp2_with fail
     refine (HCO.out _ (HP.out.below (HBW.out _ c2))).mono ?_
     rintro e w3 ⟨⟨Z,cz,rfl,hz⟩,hb3⟩
     have hzc:=hz.cap
     have hz2:=cells_ints' rfl hz
     have c3:=c2.trans (hb3.mono c2.size)
     clear hz d0 d1 d2
     go_wp2_with fail
     refine (HTM.out Z cz w3 hz2 hzc (HX.out.below (HBW.out _ c3))).mono ?_
     rintro e w4 ⟨rfl,hb4⟩
     have c4:=c3.trans (hb4.mono c3.size)
     go_wp2_with fail
     refine (HCM.out _).mono ?_
     rintro e w5 ⟨rfl,hb5⟩
     go_wp2_with fail
     go_roundw
     case rel=>exact ⟨i+1,by omega,by go_num,HBB.out,c4.trans (hb5.mono c4.size)⟩
     case measure=>simp [intOf];omega
   ·have hv1:(v2 != 0)=true:=by simpa using hv
    have HBB:=Lib.hid (show belowB (linOf cost rs) xs []=false by rw [HV.out,HB.out (by rw [HRW.out];simp [hv])])
    clear hv
    go_wp2_with fail
    refine (HO0.out _).mono ?_
    rintro e w1 ⟨rfl,hb1⟩
    have c1:=hbel0.trans (hb1.mono hbel0.size)
    clear d0 d1 d2
    obtain ⟨d0,d1,d2⟩:=lin_cells c1
    have c2:=c1
    go_wp2_with fail
    refine (HCO.out _ (HP.out.below (HBW.out _ c2))).mono ?_
    rintro e w3 ⟨⟨Z,cz,rfl,hz⟩,hb3⟩
    have hzc:=hz.cap
    have hz2:=cells_ints' rfl hz
    have c3:=c2.trans (hb3.mono c2.size)
    clear hz d0 d1 d2
    go_wp2_with fail
    refine (HTM.out Z cz w3 hz2 hzc (HX.out.below (HBW.out _ c3))).mono ?_
    rintro e w4 ⟨rfl,hb4⟩
    have c4:=c3.trans (hb4.mono c3.size)
    go_wp2_with fail
    go_ret
    exact ⟨ret_bool HBB.out.symm,HBW.out _ c4⟩
  ·have hkx:i=cost.length:=by omega
   have HA:=Lib.hid (show belowB (linOf cost rs) xs []=true by rw [HV.out,← hkx];exact HALL.out)
   clear hkx
   go_wp2_with fail
   go_ret
   exact ⟨ret_bool HA.out.symm,hbel⟩
set_option maxHeartbeats 2000000 in
set_option maxRecDepth 100000 in
theorem rlproves_any (cost:List Int) (rs:List RowV) (A:Option Addr) (ca:Nat) (R:Option Addr) (cr:Nat) (xs:List Str) (X:Option Addr) (cx:Nat) (w:World) (hm:rs.length≤1000000) (hwf:∀ r ∈ rs,r.L.coef.length=cost.length) (hp:LinAt w cost rs A ca R cr) (hx:RatsAt w xs X cx) :
  Calls Tryz.prog 44 #[linV A cost.length ca R rs.length cr,.slice X xs.length cx] w fun e w'=>e=.returned (.tuple #[.string (B (provesS (linOf cost rs) xs)),.bool (provesB (linOf cost rs) xs)])∧Below w.heap.size w w':=by
 have b0:=new_below w (linO A cost.length ca R rs.length cr)
 have HP:=Lib.hid hp
 have HX:=Lib.hid hx
 have HS:=Lib.hid (fun (w:World) (hp:LinAt w cost rs A ca R cr) (hx:RatsAt w xs X cx)=>rlsigned_any cost rs A ca R cr xs X cx w hp hx)
 have HL:=Lib.hid (fun (w:World) (hp:LinAt w cost rs A ca R cr) (hx:RatsAt w xs X cx)=>rlbelow1_any cost rs A ca R cr xs X cx w hm hwf hp hx)
 have HG:=Lib.hid (fun (w:World) (hp:LinAt w cost rs A ca R cr)=>rrights_any cost rs A ca R cr w hm hp)
 have HFR:=Lib.hid (rights_fits cost hp.ok)
 have HRL:=Lib.hid (rights_len cost rs)
 have hlx:=hx.lx
 have HBW:=Lib.hid (fun wr (h:Below (w.alloc (linO A cost.length ca R rs.length cr)).heap.size (w.alloc (linO A cost.length ca R rs.length cr)) wr)=>b0.trans (h.mono b0.size))
 have HVB:=Lib.hid (show provesB (linOf cost rs) xs=(signsB (linOf cost rs) xs && belowB (linOf cost rs) xs cost && decide ((timesQ (rightsL (linOf cost rs)) xs).2=0)) from rfl)
 have HVS:=Lib.hid (show provesS (linOf cost rs) xs=if provesB (linOf cost rs) xs=true then (timesQ (rightsL (linOf cost rs)) xs).1 else [] from rfl)
 clear hp hx hwf
 cases h1:signsB (linOf cost rs) xs
 ·rw [h1] at HS
  have HR:=Lib.hid (show provesB (linOf cost rs) xs=false by rw [HVB.out,h1];rfl)
  have HR2:=Lib.hid (show provesS (linOf cost rs) xs=[] by rw [HVS.out,HR.out];rfl)
  clear h1
  go_enter Tryz.func44,Tryz.ntmps44
  simp only [B_mk]
  go_wp2_with fail
  refine (HS.out _ (HP.out.below b0) (HX.out.below b0)).mono ?_
  rintro e w1 ⟨rfl,hb1⟩
  have a1:=HBW.out _ hb1
  obtain ⟨d0,d1,d2⟩:=lin_cells hb1
  go_wp2_with fail
  go_ret2
  exact ⟨ret_sb HR2.out.symm HR.out.symm,HBW.out _ hb1⟩
 rw [h1] at HS
 cases h2:belowB (linOf cost rs) xs cost
 ·rw [h2] at HL
  have HR:=Lib.hid (show provesB (linOf cost rs) xs=false by rw [HVB.out,h1,h2];rfl)
  have HR2:=Lib.hid (show provesS (linOf cost rs) xs=[] by rw [HVS.out,HR.out];rfl)
  clear h1 h2
  go_enter Tryz.func44,Tryz.ntmps44
  simp only [B_mk]
  go_wp2_with fail
  refine (HS.out _ (HP.out.below b0) (HX.out.below b0)).mono ?_
  rintro e w1 ⟨rfl,hb1⟩
  have a1:=HBW.out _ hb1
  obtain ⟨d0,d1,d2⟩:=lin_cells hb1
  go_wp2_with fail
  refine (HL.out w1 (HP.out.below a1) (HX.out.below a1)).mono ?_
  rintro e w2 ⟨rfl,hb2⟩
  have c2:=hb1.trans (hb2.mono hb1.size)
  have a2:=HBW.out _ c2
  clear d0 d1 d2
  obtain ⟨d0,d1,d2⟩:=lin_cells c2
  go_wp2_with fail
  go_ret2
  exact ⟨ret_sb HR2.out.symm HR.out.symm,a2⟩
 rw [h2] at HL
 have HTM:=Lib.hid (fun (Z:Option Addr) (cz:Nat) (w:World) (hZ:Cells w Z (ints (rightsL (linOf cost rs)))) (hcz:(rightsL (linOf cost rs)).length≤cz∧cz≤maxLen) (hx:RatsAt w xs X cx)=>rqtimes_any (rightsL (linOf cost rs)) xs Z X cz cx w hZ hx.cells (by have:=HRL.out;unfold maxLen;omega) (by omega) HFR.out hx.len)
 have hvl:=times_len (rightsL (linOf cost rs)) xs
 have hve:=times_err (ns:=rightsL (linOf cost rs)) (xs:=xs)
 generalize hv:timesQ (rightsL (linOf cost rs)) xs=v at HTM hvl hve
 have HVV:=Lib.hid hv
 clear hv
 obtain ⟨v1,v2⟩:=v
 have hvl1:v1.length≤8194:=hvl
 have hve1:v2≠0→v1=[]:=hve
 clear hvl hve
 have HR:=Lib.hid (show provesB (linOf cost rs) xs=(v2 == 0) by rw [HVB.out,h1,h2,HVV.out];by_cases h:v2=0 <;> simp [h])
 have HR2:=Lib.hid (show provesS (linOf cost rs) xs=v1 by
  rw [HVS.out,HR.out,HVV.out]
  by_cases h:v2=0
  ·simp [h]
  ·rw [hve1 h];simp)
 clear h1 h2 hve1
 go_enter Tryz.func44,Tryz.ntmps44
 simp only [B_mk]
 go_wp2_with fail
 refine (HS.out _ (HP.out.below b0) (HX.out.below b0)).mono ?_
 rintro e w1 ⟨rfl,hb1⟩
 have a1:=HBW.out _ hb1
 obtain ⟨d0,d1,d2⟩:=lin_cells hb1
 go_wp2_with fail
 refine (HL.out w1 (HP.out.below a1) (HX.out.below a1)).mono ?_
 rintro e w2 ⟨rfl,hb2⟩
 have c2:=hb1.trans (hb2.mono hb1.size)
 have a2:=HBW.out _ c2
 clear d0 d1 d2
 obtain ⟨d0,d1,d2⟩:=lin_cells c2
 go_wp2_with fail
 refine (HG.out w2 (HP.out.below a2)).mono ?_
 rintro e w3 ⟨⟨Z,cz,rfl,hz⟩,hb3⟩
 have hzc:=hz.cap
 have hz2:=cells_ints' rfl hz
 have a3:=a2.trans (hb3.mono a2.size)
 clear hz
 go_wp2_with fail
 refine (HTM.out Z cz w3 hz2 hzc (HX.out.below a3)).mono ?_
 rintro e w4 ⟨rfl,hb4⟩
 have a4:=a3.trans (hb4.mono a3.size)
 go_wp2_with fail
 go_ret2
 exact ⟨ret_sb HR2.out.symm HR.out.symm,a4⟩
set_option maxHeartbeats 2000000 in
set_option maxRecDepth 100000 in
theorem rlrefutes_any (cost:List Int) (rs:List RowV) (A:Option Addr) (ca:Nat) (R:Option Addr) (cr:Nat) (xs:List Str) (X:Option Addr) (cx:Nat) (w:World) (hm:rs.length≤1000000) (hwf:∀ r ∈ rs,r.L.coef.length=cost.length) (hp:LinAt w cost rs A ca R cr) (hx:RatsAt w xs X cx) :
  Calls Tryz.prog 43 #[linV A cost.length ca R rs.length cr,.slice X xs.length cx] w fun e w'=>e=.returned (.bool (refutesB (linOf cost rs) xs))∧Below w.heap.size w w':=by
 have b0:=new_below w (linO A cost.length ca R rs.length cr)
 have HP:=Lib.hid hp
 have HX:=Lib.hid hx
 have HS:=Lib.hid (fun (w:World) (hp:LinAt w cost rs A ca R cr) (hx:RatsAt w xs X cx)=>rlsigned_any cost rs A ca R cr xs X cx w hp hx)
 have HL:=Lib.hid (fun (w:World) (hp:LinAt w cost rs A ca R cr) (hx:RatsAt w xs X cx)=>rlbelow2_any cost rs A ca R cr xs X cx w hm hwf hp hx)
 have HG:=Lib.hid (fun (w:World) (hp:LinAt w cost rs A ca R cr)=>rrights_any cost rs A ca R cr w hm hp)
 have HFR:=Lib.hid (rights_fits cost hp.ok)
 have HRL:=Lib.hid (rights_len cost rs)
 have hlx:=hx.lx
 have HBW:=Lib.hid (fun wr (h:Below (w.alloc (linO A cost.length ca R rs.length cr)).heap.size (w.alloc (linO A cost.length ca R rs.length cr)) wr)=>b0.trans (h.mono b0.size))
 have HVB:=Lib.hid (show refutesB (linOf cost rs) xs=(signsB (linOf cost rs) xs && belowB (linOf cost rs) xs [] && decide ((timesQ (rightsL (linOf cost rs)) xs).2=0) && decide (0<signQ (timesQ (rightsL (linOf cost rs)) xs).1)) from rfl)
 clear hp hx hwf
 cases h1:signsB (linOf cost rs) xs
 ·rw [h1] at HS
  have HR:=Lib.hid (show refutesB (linOf cost rs) xs=false by rw [HVB.out,h1];rfl)
  clear h1
  go_enter Tryz.func43,Tryz.ntmps43
  skip
  go_wp2_with fail
  refine (HS.out _ (HP.out.below b0) (HX.out.below b0)).mono ?_
  rintro e w1 ⟨rfl,hb1⟩
  have a1:=HBW.out _ hb1
  obtain ⟨d0,d1,d2⟩:=lin_cells hb1
  go_wp2_with fail
  go_ret
  exact ⟨ret_bool HR.out.symm,HBW.out _ hb1⟩
 rw [h1] at HS
 cases h2:belowB (linOf cost rs) xs []
 ·rw [h2] at HL
  have HR:=Lib.hid (show refutesB (linOf cost rs) xs=false by rw [HVB.out,h1,h2];rfl)
  clear h1 h2
  go_enter Tryz.func43,Tryz.ntmps43
  skip
  go_wp2_with fail
  refine (HS.out _ (HP.out.below b0) (HX.out.below b0)).mono ?_
  rintro e w1 ⟨rfl,hb1⟩
  have a1:=HBW.out _ hb1
  obtain ⟨d0,d1,d2⟩:=lin_cells hb1
  go_wp2_with fail
  refine (HL.out w1 (HP.out.below a1) (HX.out.below a1)).mono ?_
  rintro e w2 ⟨rfl,hb2⟩
  have c2:=hb1.trans (hb2.mono hb1.size)
  have a2:=HBW.out _ c2
  clear d0 d1 d2
  obtain ⟨d0,d1,d2⟩:=lin_cells c2
  go_wp2_with fail
  go_ret
  exact ⟨ret_bool HR.out.symm,a2⟩
 rw [h2] at HL
 have HTM:=Lib.hid (fun (Z:Option Addr) (cz:Nat) (w:World) (hZ:Cells w Z (ints (rightsL (linOf cost rs)))) (hcz:(rightsL (linOf cost rs)).length≤cz∧cz≤maxLen) (hx:RatsAt w xs X cx)=>rqtimes_any (rightsL (linOf cost rs)) xs Z X cz cx w hZ hx.cells (by have:=HRL.out;unfold maxLen;omega) (by omega) HFR.out hx.len)
 have hvl:=times_len (rightsL (linOf cost rs)) xs
 have hve:=times_err (ns:=rightsL (linOf cost rs)) (xs:=xs)
 generalize hv:timesQ (rightsL (linOf cost rs)) xs=v at HTM hvl hve
 have HVV:=Lib.hid hv
 clear hv
 obtain ⟨v1,v2⟩:=v
 have hvl1:v1.length≤8194:=hvl
 have hve1:v2≠0→v1=[]:=hve
 clear hvl hve
 have HSG:=Lib.hid (fun (w:World)=>rqsign_any v1 w (by omega))
 have HR:=Lib.hid (show refutesB (linOf cost rs) xs=((v2 == 0) && decide (0<signQ v1)) by rw [HVB.out,h1,h2,HVV.out];by_cases h:v2=0 <;> simp [h])
 clear h1 h2 hve1
 generalize signQ v1=sg at *
 cases h3:(v2 == 0)
 ·have HR':=Lib.hid (show refutesB (linOf cost rs) xs=false by rw [HR.out,h3];rfl)
  go_enter Tryz.func43,Tryz.ntmps43
  skip
  go_wp2_with fail
  refine (HS.out _ (HP.out.below b0) (HX.out.below b0)).mono ?_
  rintro e w1 ⟨rfl,hb1⟩
  have a1:=HBW.out _ hb1
  obtain ⟨d0,d1,d2⟩:=lin_cells hb1
  go_wp2_with fail
  refine (HL.out w1 (HP.out.below a1) (HX.out.below a1)).mono ?_
  rintro e w2 ⟨rfl,hb2⟩
  have c2:=hb1.trans (hb2.mono hb1.size)
  have a2:=HBW.out _ c2
  clear d0 d1 d2
  obtain ⟨d0,d1,d2⟩:=lin_cells c2
  go_wp2_with fail
  refine (HG.out w2 (HP.out.below a2)).mono ?_
  rintro e w3 ⟨⟨Z,cz,rfl,hz⟩,hb3⟩
  have hzc:=hz.cap
  have hz2:=cells_ints' rfl hz
  have a3:=a2.trans (hb3.mono a2.size)
  clear hz
  go_wp2_with fail
  refine (HTM.out Z cz w3 hz2 hzc (HX.out.below a3)).mono ?_
  rintro e w4 ⟨rfl,hb4⟩
  have a4:=a3.trans (hb4.mono a3.size)
  go_wp2_with fail
  go_ret
  exact ⟨ret_bool HR'.out.symm,a4⟩
 ·have HR':=Lib.hid (show refutesB (linOf cost rs) xs=decide (0<sg) by rw [HR.out,h3];rfl)
  go_enter Tryz.func43,Tryz.ntmps43
  skip
  go_wp2_with fail
  refine (HS.out _ (HP.out.below b0) (HX.out.below b0)).mono ?_
  rintro e w1 ⟨rfl,hb1⟩
  have a1:=HBW.out _ hb1
  obtain ⟨d0,d1,d2⟩:=lin_cells hb1
  go_wp2_with fail
  refine (HL.out w1 (HP.out.below a1) (HX.out.below a1)).mono ?_
  rintro e w2 ⟨rfl,hb2⟩
  have c2:=hb1.trans (hb2.mono hb1.size)
  have a2:=HBW.out _ c2
  clear d0 d1 d2
  obtain ⟨d0,d1,d2⟩:=lin_cells c2
  go_wp2_with fail
  refine (HG.out w2 (HP.out.below a2)).mono ?_
  rintro e w3 ⟨⟨Z,cz,rfl,hz⟩,hb3⟩
  have hzc:=hz.cap
  have hz2:=cells_ints' rfl hz
  have a3:=a2.trans (hb3.mono a2.size)
  clear hz
  go_wp2_with fail
  refine (HTM.out Z cz w3 hz2 hzc (HX.out.below a3)).mono ?_
  rintro e w4 ⟨rfl,hb4⟩
  have a4:=a3.trans (hb4.mono a3.size)
  go_wp2_with fail
  refine (HSG.out w4).mono ?_
  rintro e w5 ⟨rfl,hb5⟩
  go_wp2_with fail
  go_ret
  exact ⟨ret_bool HR'.out.symm,a4.trans (hb5.mono a4.size)⟩
section
variable (cost:List Int) (rs:List RowV) (A:Option Addr) (ca:Nat) (R:Option Addr) (cr:Nat) (w:World)
end
set_option maxHeartbeats 4000000 in
set_option maxRecDepth 100000 in
theorem rxright_any (xs:List Str) (X:Option Addr) (cx:Nat) (w:World) (hx:RatsAt w xs X cx) :
  Calls Tryz.prog 41 #[.slice X xs.length cx] w fun e w'=>e=.returned (.bool (xs.all rightQ))∧Below w.heap.size w w':=by
 have hlx:=hx.lx
 unfold maxLen at hlx
 have HX:=Lib.hid hx
 clear hx
 go_enter Tryz.func41,Tryz.ntmps41
 go_wp2_with fail
 go_loopw [2,3] (fun _ i wr=>∃ k:Nat,k≤xs.length∧i=.int .i64 k∧(xs.take k).all rightQ=true∧Below w.heap.size w wr) (fun _ i _=>xs.length - (intOf i).toNat)
 case atStart=>exact ⟨0,Nat.zero_le _,rfl,rfl,Below.refl _ _⟩
 case round =>
  obtain ⟨k,hk,rfl,hall,hb⟩:=hrel
  have HALL:=Lib.hid hall
  clear hall
  by_cases hlt:k<xs.length
  ·obtain ⟨b,off,rfl,hbl,hc⟩:=HX.out.cells (by unfold strs;rw [List.length_map];omega)
   have dc:=(hb.cell (p:=⟨b,off+k,none⟩) hbl).trans (hc k (.string (B xs[k])) (by unfold strs;rw [List.getElem?_map,List.getElem?_eq_getElem hlt];rfl))
   have hl:=HX.out.len xs[k] (List.getElem_mem hlt)
   have HR:=Lib.hid (rrq_any xs[k] wr (by omega))
   have HN:=Lib.hid (show rightQ xs[k]=true→(xs.take (k+1)).all rightQ=true from fun h=>all_take hlt HALL.out h)
   have HF:=Lib.hid (show rightQ xs[k]=false→xs.all rightQ=false from fun h=>all_bad hlt h)
   clear hc hl
   generalize xs[k]=s at *
   cases hq:rightQ s
   ·have HF2:=Lib.hid (HF.out hq)
    rw [hq] at HR
    clear hq
    go_wp2_with fail
    refine HR.out.mono ?_
    rintro e w1 ⟨rfl,hb1⟩
    go_wp2_with fail
    go_ret
    exact ⟨by rw [HF2.out];rfl,below_lift3 hb hb1⟩
   ·have HN2:=Lib.hid (HN.out hq)
    rw [hq] at HR
    clear hq
    go_wp2_with fail
    refine HR.out.mono ?_
    rintro e w1 ⟨rfl,hb1⟩
    go_wp2_with fail
    go_roundw
    case rel=>exact ⟨k+1,by omega,by go_num,HN2.out,below_lift3 hb hb1⟩
    case measure=>simp [intOf];omega
  ·have hkx:k=xs.length:=by omega
   have HA:=Lib.hid (show xs.all rightQ=true by have:=HALL.out;rwa [hkx,List.take_length] at this)
   have hkn:¬ (k:Int)<(xs.length:Int):=by omega
   clear hkx
   go_wp2_with fail
   go_ret
   exact ⟨by rw [HA.out];rfl,hb⟩
set_option maxHeartbeats 8000000 in
set_option maxRecDepth 100000 in
theorem rxsized_any (n m:Nat) (A:Option Addr) (ca:Nat) (R:Option Addr) (cr:Nat) (a:AnsL) (X Y Z:Option Addr) (cx cy cz:Nat) (w:World) :
  Calls Tryz.prog 40 #[linV A n ca R m cr,ansP a X Y Z cx cy cz] w fun e w'=>e=.returned (.bool (sizesB n m a))∧Below w.heap.size w w':=by
 obtain ⟨ak,aX,aD,aR,aV⟩:=a
 have b1:=new_below w (linO A n ca R m cr)
 have b2:=new_below (w.alloc (linO A n ca R m cr)) (.cells #[.int .i64 ak,.slice X aX.length cx,.slice Y aD.length cy,.slice Z aR.length cz,.string (B aV)] 31)
 have b12:=below_lift3 b1 b2
 have HT:=Lib.hid (two_box (w:=w) A n ca R m cr ak (.slice X aX.length cx) (.slice Y aD.length cy) (.slice Z aR.length cz) aV)
 have HD:=Lib.hid (show sizesB n m ⟨ak,aX,aD,aR,aV⟩=(if (ak == 1)=true then ((aX.length:Int) == (n:Int)) && ((aD.length:Int) == (m:Int)) && ((aR.length:Int) == 0)
  else if (ak == 2)=true then ((aX.length:Int) == 0) && ((aD.length:Int) == (m:Int)) && ((aR.length:Int) == 0) && (aV == [])
  else ((aX.length:Int) == (n:Int)) && ((aD.length:Int) == 0) && ((aR.length:Int) == (n:Int)) && (aV == [])) from rfl)
 have HB12:=Lib.hid b12
 clear b1 b2 b12
 generalize sizesB n m ⟨ak,aX,aD,aR,aV⟩=res at *
 change Calls Tryz.prog 40 #[linV A n ca R m cr,ansV ak (.slice X aX.length cx) (.slice Y aD.length cy) (.slice Z aR.length cz) aV] w _
 generalize aX.length=lx at *
 generalize aD.length=ld at *
 generalize aR.length=lr at *
 cases k1:(ak == 1)
 ·cases k2:(ak == 2)
  ·have HR:=Lib.hid (show res=(((lx:Int) == (n:Int)) && ((ld:Int) == 0) && ((lr:Int) == (n:Int)) && (aV == [])) by rw [HD.out,if_neg (by rw [k1];decide),if_neg (by rw [k2];decide)])
   cases hX:((lx:Int) == (n:Int)) <;> cases hD:((ld:Int) == 0) <;> cases hR:((lr:Int) == (n:Int)) <;> cases hV:(aV == ([]:Str))
   all_goals
    have HR2:=Lib.hid HR.out
    rw [hX,hD,hR,hV] at HR2
    go_enter Tryz.func40,Tryz.ntmps40
    simp only [B_mk]
    go_upto_region 1 with fail
    generalize (w.alloc (linO A n ca R m cr)).alloc (.cells #[.int .i64 ak,.slice X lx cx,.slice Y ld cy,.slice Z lr cz,.string (B aV)] 31)=w2 at *
    obtain ⟨⟨x0,x1⟩,y0,y1,y2,y3,y4⟩:=HT.out w2 (Below.refl _ _)
    go_quiet (fail)
    have hq:=below_drewN (Below.refl w2.heap.size w2) nq
    obtain ⟨⟨x0,x1⟩,y0,y1,y2,y3,y4⟩:=HT.out _ hq
    have hbq:=below_lift3 HB12.out hq
    go_wp2_with fail
    go_ret
    exact ⟨ret_bool (by rw [HR2.out];rfl),hbq⟩
  ·have HR:=Lib.hid (show res=(((lx:Int) == 0) && ((ld:Int) == (m:Int)) && ((lr:Int) == 0) && (aV == [])) by rw [HD.out,if_neg (by rw [k1];decide),if_pos k2])
   cases hX:((lx:Int) == 0) <;> cases hD:((ld:Int) == (m:Int)) <;> cases hR:((lr:Int) == 0) <;> cases hV:(aV == ([]:Str))
   all_goals
    have HR2:=Lib.hid HR.out
    rw [hX,hD,hR,hV] at HR2
    go_enter Tryz.func40,Tryz.ntmps40
    simp only [B_mk]
    go_upto_region 1 with fail
    generalize (w.alloc (linO A n ca R m cr)).alloc (.cells #[.int .i64 ak,.slice X lx cx,.slice Y ld cy,.slice Z lr cz,.string (B aV)] 31)=w2 at *
    obtain ⟨⟨x0,x1⟩,y0,y1,y2,y3,y4⟩:=HT.out w2 (Below.refl _ _)
    go_quiet (fail)
    have hq:=below_drewN (Below.refl w2.heap.size w2) nq
    obtain ⟨⟨x0,x1⟩,y0,y1,y2,y3,y4⟩:=HT.out _ hq
    have hbq:=below_lift3 HB12.out hq
    go_wp2_with fail
    go_ret
    exact ⟨ret_bool (by rw [HR2.out];rfl),hbq⟩
 ·have HR:=Lib.hid (show res=(((lx:Int) == (n:Int)) && ((ld:Int) == (m:Int)) && ((lr:Int) == 0)) by rw [HD.out,if_pos k1])
  cases hX:((lx:Int) == (n:Int)) <;> cases hD:((ld:Int) == (m:Int)) <;> cases hR:((lr:Int) == 0)
  all_goals
   have HR2:=Lib.hid HR.out
   rw [hX,hD,hR] at HR2
   go_enter Tryz.func40,Tryz.ntmps40
   simp only [B_mk]
   go_upto_region 1 with fail
   generalize (w.alloc (linO A n ca R m cr)).alloc (.cells #[.int .i64 ak,.slice X lx cx,.slice Y ld cy,.slice Z lr cz,.string (B aV)] 31)=w2 at *
   obtain ⟨⟨x0,x1⟩,y0,y1,y2,y3,y4⟩:=HT.out w2 (Below.refl _ _)
   go_quiet (fail)
   have hq:=below_drewN (Below.refl w2.heap.size w2) nq
   obtain ⟨⟨x0,x1⟩,y0,y1,y2,y3,y4⟩:=HT.out _ hq
   have hbq:=below_lift3 HB12.out hq
   go_wp2_with fail
   go_ret
   exact ⟨ret_bool (by rw [HR2.out];rfl),hbq⟩
set_option maxHeartbeats 8000000 in
set_option maxRecDepth 100000 in
theorem rxfalls_any (cost:List Int) (rs:List RowV) (A:Option Addr) (ca:Nat) (R:Option Addr) (cr:Nat) (xs:List Str) (X:Option Addr) (cx:Nat) (w:World) (hm:rs.length≤1000000) (hk:∀ r ∈ rs,r.L.kind=1∨r.L.kind=2∨r.L.kind=3) (hp:LinAt w cost rs A ca R cr) (hx:RatsAt w xs X cx) :
  Calls Tryz.prog 45 #[linV A cost.length ca R rs.length cr,.slice X xs.length cx] w fun e w'=>e=.returned (.bool (fallsB (linOf cost rs) xs))∧Below w.heap.size w w':=by
 have hlx:=hx.lx
 have hlr:=hp.lr
 have hla:=hp.la
 unfold maxLen at hlx hlr hla
 have b0:=new_below w (linO A cost.length ca R rs.length cr)
 have HX:=Lib.hid hx
 have HP:=Lib.hid hp
 have HK:=Lib.hid hk
 have HD:=Lib.hid (show fallsB (linOf cost rs) xs=(nonneg xs && rs.all (fun r=>fallB r.L xs) && decide ((timesQ cost xs).2=0) && decide (signQ (timesQ cost xs).1<0)) by
  unfold fallsB linOf;simp [List.all_map,Function.comp_def])
 clear hx hp hk
 generalize fallsB (linOf cost rs) xs=res at *
 go_enter Tryz.func45,Tryz.ntmps45
 go_wp2_with fail
 go_loopw [4,5] (fun _ i wr=>∃ k:Nat,k≤xs.length∧i=.int .i64 k∧(xs.take k).all (fun x=>decide (0≤signQ x))=true∧Below (w.alloc (linO A cost.length ca R rs.length cr)).heap.size (w.alloc (linO A cost.length ca R rs.length cr)) wr) (fun _ i _=>xs.length - (intOf i).toNat)
 case atStart=>exact ⟨0,Nat.zero_le _,rfl,rfl,Below.refl _ _⟩
 case round =>
  obtain ⟨k,hk,rfl,hall,hb⟩:=hrel
  have HALL:=Lib.hid hall
  clear hall
  have hbw:=b0.trans (hb.mono b0.size)
  by_cases hlt:k<xs.length
  ·obtain ⟨b,off,rfl,hbl,hc⟩:=HX.out.cells (by unfold strs;rw [List.length_map];omega)
   have dc:=(hbw.cell (p:=⟨b,off+k,none⟩) hbl).trans (hc k (.string (B xs[k])) (by unfold strs;rw [List.getElem?_map,List.getElem?_eq_getElem hlt];rfl))
   have hl:=HX.out.len xs[k] (List.getElem_mem hlt)
   have HR:=Lib.hid (rqsign_any xs[k] wr (by omega))
   have HN:=Lib.hid (show 0≤signQ xs[k]→(xs.take (k+1)).all (fun x=>decide (0≤signQ x))=true from fun h=>all_take hlt HALL.out (by simpa using h))
   have HF:=Lib.hid (show ¬ 0≤signQ xs[k]→nonneg xs=false from fun h=>all_bad hlt (by simpa using h))
   clear hc hl
   generalize xs[k]=s at *
   by_cases hs:signQ s<0
   ·have HF2:=Lib.hid (show res=false by rw [HD.out,HF.out (by omega)];rfl)
    generalize signQ s=sg at *
    go_wp2_with fail
    refine HR.out.mono ?_
    rintro e w1 ⟨rfl,hb1⟩
    go_wp2_with fail
    go_ret
    exact ⟨ret_bool HF2.out.symm,below_lift3 hbw hb1⟩
   ·have HN2:=Lib.hid (HN.out (by omega))
    generalize signQ s=sg at *
    go_wp2_with fail
    refine HR.out.mono ?_
    rintro e w1 ⟨rfl,hb1⟩
    go_wp2_with fail
    go_roundw
    case rel=>exact ⟨k+1,by omega,by go_num,HN2.out,below_lift3 hb hb1⟩
    case measure=>simp [intOf];omega
  ·have hkx:k=xs.length:=by omega
   have HA:=Lib.hid (show nonneg xs=true by have:=HALL.out;rw [hkx,List.take_length] at this;exact this)
   have hkn:¬ (k:Int)<(xs.length:Int):=by omega
   obtain ⟨x0,x1,x2⟩:=lin_cells hb
   clear hkx
   go_wp2_with fail
   clear x0 x1 x2
   go_loopw [4,6,7,8,9,10] (fun _ i _ _ _ _ wr=>∃ j:Nat,j≤rs.length∧i=.int .i64 j∧(rs.take j).all (fun r=>fallB r.L xs)=true∧Below (w.alloc (linO A cost.length ca R rs.length cr)).heap.size (w.alloc (linO A cost.length ca R rs.length cr)) wr) (fun _ i _ _ _ _ _=>rs.length - (intOf i).toNat)
   case atStart=>exact ⟨0,Nat.zero_le _,rfl,rfl,hb⟩
   case round =>
    clear hb hbw hkn
    obtain ⟨j,hj,rfl,hall,hb⟩:=hrel
    have HALLR:=Lib.hid hall
    clear hall
    have hbw:=b0.trans (hb.mono b0.size)
    obtain ⟨x0,x1,x2⟩:=lin_cells hb
    by_cases hlt2:j<rs.length
    ·obtain ⟨bR,oR,rfl,hbR,hcR⟩:=HP.out.rows.at (by omega)
     have hc0:=(hbw.cell (p:=⟨bR,oR+j*3,none⟩) hbR).trans (hcR j hlt2).1
     have hc1:=(hbw.cell (p:=⟨bR,oR+j*3+1,none⟩) hbR).trans (hcR j hlt2).2.1
     have hc2:=(hbw.cell (p:=⟨bR,oR+j*3+2,none⟩) hbR).trans (hcR j hlt2).2.2
     have hkk:=HK.out rs[j] (List.getElem_mem hlt2)
     have hra:Num.rowAt (linOf cost rs) j=rs[j].L:=lin_rowAt cost rs j hlt2
     have hlq:leftQ (linOf cost rs) (j:Int) xs=timesQ rs[j].L.coef xs:=by
      unfold leftQ
      rw [if_pos ⟨by omega,by rw [lin_rows];omega⟩,Int.toNat_natCast,hra]
     have HN:=Lib.hid (show fallB rs[j].L xs=true→(rs.take (j+1)).all (fun r=>fallB r.L xs)=true from fun h=>all_take hlt2 HALLR.out h)
     have HF:=Lib.hid (show fallB rs[j].L xs=false→rs.all (fun r=>fallB r.L xs)=false from fun h=>all_bad hlt2 h)
     have HKC:=Lib.hid (fun w' (h:Below w.heap.size w w')=>(h.cell (p:=⟨bR,oR+j*3+1,none⟩) hbR).trans (hcR j hlt2).2.1)
     have HL:=Lib.hid (rlleft_any cost rs (A) ca (some ⟨bR,oR,none⟩) cr (j:Int) xs X cx wr (by constructor <;> omega) (HP.out.below hbw) (HX.out.below hbw))
     rw [hlq] at HL
     have HFB:=Lib.hid (show fallB rs[j].L xs=(decide ((timesQ rs[j].L.coef xs).2=0) && holdsB rs[j].L.kind (signQ (timesQ rs[j].L.coef xs).1)) from rfl)
     have HSG:=Lib.hid (fun (w:World)=>rqsign_any (timesQ rs[j].L.coef xs).1 w (times_len2 _ _))
     clear hcR hra hlq hc0 hc1 hc2
     generalize fallB rs[j].L xs=fb at *
     generalize timesQ rs[j].L.coef xs=tq at *
     obtain ⟨t1,t2⟩:=tq
     generalize rs[j]=r at *
     go_wp2_with fail
     refine HL.out.mono ?_
     rintro e w2 ⟨rfl,hb2⟩
     have hb3:=hb.trans (hb2.mono hb.size)
     have hbw3:=b0.trans (hb3.mono b0.size)
     have HSX:=Lib.hid (HSG.out w2)
     clear x0 x1 x2 HL hb2
     go_wp2_with fail
     refine HSX.out.mono ?_
     rintro e w4 ⟨rfl,hb4⟩
     have hb5:=hb3.trans (hb4.mono hb3.size)
     have hbw5:=b0.trans (hb5.mono b0.size)
     have c1:=HKC.out w4 hbw5
     obtain ⟨x0,x1,x2⟩:=lin_cells hb5
     clear HSX hb4 hb3 hbw3
     generalize signQ t1=sg at *
     by_cases ht:t2=0
     ·have ht':(t2 != 0)=false:=by simpa using ht
      have HFB2:=Lib.hid (show fb=holdsB r.L.kind sg by rw [HFB.out];simp [ht])
      clear ht
      generalize r.L.kind=kk at *
      rcases hkk with rfl | rfl | rfl
      ·by_cases hs:0<sg
       ·have HR:=Lib.hid (show res=false by rw [HD.out,HF.out (by rw [HFB2.out];unfold holdsB;simp;omega)];simp)
        have hsd:decide (0<sg)=true:=decide_eq_true hs
        go_wp2_with fail
        go_ret
        exact ⟨ret_bool HR.out.symm,hbw5⟩
       ·have HN2:=Lib.hid (HN.out (by rw [HFB2.out];unfold holdsB;simp;omega))
        have hsd:decide (0<sg)=false:=decide_eq_false hs
        go_wp2_with fail
        go_roundw
        case rel=>exact ⟨j+1,by omega,by go_num,HN2.out,hb5⟩
        case measure=>simp [intOf];omega
      ·by_cases hs:sg=0
       ·have HN2:=Lib.hid (HN.out (by rw [HFB2.out];unfold holdsB;simp;omega))
        subst hs
        go_wp2_with fail
        go_roundw
        case rel=>exact ⟨j+1,by omega,by go_num,HN2.out,hb5⟩
        case measure=>simp [intOf];omega
       ·have HR:=Lib.hid (show res=false by rw [HD.out,HF.out (by rw [HFB2.out];unfold holdsB;simp;omega)];simp)
        have hsd:(sg != 0)=true:=by simpa using hs
        clear hs
        go_wp2_with fail
        go_ret
        exact ⟨ret_bool HR.out.symm,hbw5⟩
      ·by_cases hs:sg<0
       ·have HR:=Lib.hid (show res=false by rw [HD.out,HF.out (by rw [HFB2.out];unfold holdsB;simp;omega)];simp)
        have hsd:decide (sg<0)=true:=decide_eq_true hs
        go_wp2_with fail
        go_ret
        exact ⟨ret_bool HR.out.symm,hbw5⟩
       ·have HN2:=Lib.hid (HN.out (by rw [HFB2.out];unfold holdsB;simp;omega))
        have hsd:decide (sg<0)=false:=decide_eq_false hs
        go_wp2_with fail
        go_roundw
        case rel=>exact ⟨j+1,by omega,by go_num,HN2.out,hb5⟩
        case measure=>simp [intOf];omega
     ·have ht':(t2 != 0)=true:=by simpa using ht
      have HR:=Lib.hid (show res=false by rw [HD.out,HF.out (by rw [HFB.out];simp [ht])];simp)
      clear ht
      go_wp2_with fail
      go_ret
      exact ⟨ret_bool HR.out.symm,hbw5⟩
    ·have hjx:j=rs.length:=by omega
     have HAR:=Lib.hid (show rs.all (fun r=>fallB r.L xs)=true by have:=HALLR.out;rwa [hjx,List.take_length] at this)
     have hjn:¬ (j:Int)<(rs.length:Int):=by omega
     have HVL:=Lib.hid (rlval_any cost rs A ca R cr xs X cx wr (HP.out.below hbw) (HX.out.below hbw))
     have HSG:=Lib.hid (fun (w:World)=>rqsign_any (timesQ cost xs).1 w (times_len2 _ _))
     clear hjx
     generalize timesQ cost xs=tq at *
     obtain ⟨t1,t2⟩:=tq
     have HRR:=Lib.hid (show res=(decide (t2=0) && decide (signQ t1<0)) by rw [HD.out,HA.out,HAR.out];simp)
     go_wp2_with fail
     refine HVL.out.mono ?_
     rintro e w2 ⟨rfl,hb2⟩
     have hbw2:=below_lift3 hbw hb2
     have HSX:=Lib.hid (HSG.out w2)
     clear x0 x1 x2 HVL HSG
     by_cases ht:t2=0
     ·subst ht
      by_cases hs:signQ t1<0
      ·have HR:=Lib.hid (show res=true by rw [HRR.out];simp [hs])
       generalize signQ t1=sg at *
       go_wp2_with fail
       refine HSX.out.mono ?_
       rintro e w3 ⟨rfl,hb3⟩
       have hsd:decide (sg<0)=true:=decide_eq_true hs
       go_wp2_with fail
       go_ret
       exact ⟨ret_bool HR.out.symm,below_lift3 hbw2 hb3⟩
      ·have HR:=Lib.hid (show res=false by rw [HRR.out];simp [hs])
       generalize signQ t1=sg at *
       go_wp2_with fail
       refine HSX.out.mono ?_
       rintro e w3 ⟨rfl,hb3⟩
       have hsd:decide (sg<0)=false:=decide_eq_false (by omega)
       go_wp2_with fail
       go_ret
       exact ⟨ret_bool HR.out.symm,below_lift3 hbw2 hb3⟩
     ·have ht':(t2 == 0)=false:=by simpa using ht
      have HR:=Lib.hid (show res=false by rw [HRR.out];simp [ht])
      clear ht
      go_wp2_with fail
      go_ret
      exact ⟨ret_bool HR.out.symm,hbw2⟩
set_option maxHeartbeats 8000000 in
set_option maxRecDepth 100000 in
theorem rxcheck_any (cost:List Int) (rs:List RowV) (A:Option Addr) (ca:Nat) (R:Option Addr) (cr:Nat) (a:AnsL) (X Y Z:Option Addr) (cx cy cz:Nat) (w:World) (hm:rs.length≤1000000) (hcl:checkK (linOf cost rs) rs.length=[]) (hwf:∀ r ∈ rs,r.L.coef.length=cost.length) (hk:∀ r ∈ rs,r.L.kind=1∨r.L.kind=2∨r.L.kind=3)
  (hp:LinAt w cost rs A ca R cr) (hX:RatsAt w a.X X cx) (hY:RatsAt w a.dual Y cy) (hZ:RatsAt w a.ray Z cz) (hv:a.value.length≤1000000) :
  Calls Tryz.prog 12 #[linV A cost.length ca R rs.length cr,ansP a X Y Z cx cy cz] w fun e w'=>e=.returned (.int .i64 (chkA (linOf cost rs) rs.length a))∧Below w.heap.size w w':=by
 obtain ⟨ak,aX,aD,aR,aV⟩:=a
 have b1:=new_below w (linO A cost.length ca R rs.length cr)
 have b2:=new_below (w.alloc (linO A cost.length ca R rs.length cr)) (.cells #[.int .i64 ak,.slice X aX.length cx,.slice Y aD.length cy,.slice Z aR.length cz,.string (B aV)] 31)
 have b12:=below_lift3 b1 b2
 have HT:=Lib.hid (two_box (w:=w) A cost.length ca R rs.length cr ak (.slice X aX.length cx) (.slice Y aD.length cy) (.slice Z aR.length cz) aV)
 have HCK:=Lib.hid (fun w' (h:Below w.heap.size w w')=>rlcheck_any cost rs A ca R cr w' hm (hp.below h))
 rw [hcl] at HCK
 have HSZ:=Lib.hid (fun w'=>rxsized_any cost.length rs.length A ca R cr ⟨ak,aX,aD,aR,aV⟩ X Y Z cx cy cz w')
 have HRX:=Lib.hid (fun w' (h:Below w.heap.size w w')=>rxright_any aX X cx w' (hX.below h))
 have HRD:=Lib.hid (fun w' (h:Below w.heap.size w w')=>rxright_any aD Y cy w' (hY.below h))
 have HRR:=Lib.hid (fun w' (h:Below w.heap.size w w')=>rxright_any aR Z cz w' (hZ.below h))
 have HRV:=Lib.hid (fun w' (h:Below w.heap.size w w')=>rrq_any aV w' hv)
 have HFI:=Lib.hid (fun w' (h:Below w.heap.size w w')=>rlfits_any cost rs A ca R cr aX X cx w' (hp.below h) (hX.below h))
 have HPV:=Lib.hid (fun w' (h:Below w.heap.size w w')=>rlproves_any cost rs A ca R cr aD Y cy w' hm hwf (hp.below h) (hY.below h))
 have HVL:=Lib.hid (fun w' (h:Below w.heap.size w w')=>rlval_any cost rs A ca R cr aX X cx w' (hp.below h) (hX.below h))
 have HPB:=Lib.hid (show provedB (linOf cost rs) ⟨ak,aX,aD,aR,aV⟩=(provesB (linOf cost rs) aD && decide (provesS (linOf cost rs) aD=aV) && decide ((timesQ cost aX).2=0) && decide ((timesQ cost aX).1=aV)) from rfl)
 have HRF:=Lib.hid (fun w' (h:Below w.heap.size w w')=>rlrefutes_any cost rs A ca R cr aD Y cy w' hm hwf (hp.below h) (hY.below h))
 have HFA:=Lib.hid (fun w' (h:Below w.heap.size w w')=>rxfalls_any cost rs A ca R cr aR Z cz w' hm hk (hp.below h) (hZ.below h))
 have HD:=Lib.hid (show chkA (linOf cost rs) rs.length ⟨ak,aX,aD,aR,aV⟩=(if (ak == 1 || ak == 2 || ak == 3)=false then 8
  else if sizesB cost.length rs.length ⟨ak,aX,aD,aR,aV⟩=false then 2
  else if (aX.all rightQ && aD.all rightQ && aR.all rightQ && (!(ak == 1) || rightQ aV))=false then 3
  else if (!(ak == 2) && !fitsB (linOf cost rs) aX)=true then 24
  else if ((ak == 1 && !provedB (linOf cost rs) ⟨ak,aX,aD,aR,aV⟩) || (ak == 2 && !refutesB (linOf cost rs) aD))=true then 26
  else if (ak == 3 && !fallsB (linOf cost rs) aR)=true then 25 else 0) from rfl)
 have HB12:=Lib.hid b12
 clear hp hX hY hZ b1 b2 b12 hcl
 generalize chkA (linOf cost rs) rs.length ⟨ak,aX,aD,aR,aV⟩=res at *
 generalize sizesB cost.length rs.length ⟨ak,aX,aD,aR,aV⟩=bS at *
 generalize provedB (linOf cost rs) ⟨ak,aX,aD,aR,aV⟩=bP at *
 generalize provesB (linOf cost rs) aD=pB at *
 generalize provesS (linOf cost rs) aD=ps at *
 generalize timesQ cost aX=tq at *
 obtain ⟨t1,t2⟩:=tq
 generalize refutesB (linOf cost rs) aD=bR at *
 generalize fallsB (linOf cost rs) aR=bF at *
 generalize fitsB (linOf cost rs) aX=bX at *
 generalize aX.all rightQ=rX at *
 generalize aD.all rightQ=rD at *
 generalize aR.all rightQ=rR at *
 generalize rightQ aV=rV at *
 go_enter Tryz.func12,Tryz.ntmps12
 go_upto_region 1 with fail
 generalize (w.alloc (linO A cost.length ca R rs.length cr)).alloc (.cells #[.int .i64 ak,.slice X aX.length cx,.slice Y aD.length cy,.slice Z aR.length cz,.string (B aV)] 31)=wB at *
 obtain ⟨⟨x0,x1⟩,y0,y1,y2,y3,y4⟩:=HT.out wB (Below.refl _ _)
 have HC1:=Lib.hid (HCK.out wB HB12.out)
 go_wp2_with fail
 refine HC1.out.mono ?_
 rintro e w0 ⟨⟨v,rfl,hF⟩,hb0⟩
 obtain ⟨F,cf,rfl,_⟩:=hF
 obtain ⟨⟨x0,x1⟩,y0,y1,y2,y3,y4⟩:=HT.out w0 hb0
 have hw0:=below_lift3 HB12.out hb0
 clear HC1 HCK
 by_cases e1:ak=1
 ·subst e1
  have HS1:=Lib.hid (HSZ.out w0)
  cases hb:bS
  ·rw [hb] at HS1
   have HR:=Lib.hid (show res=2 by rw [HD.out];simp [hb])
   clear hb
   go_wp2_with fail
   refine HS1.out.mono ?_
   rintro e w1 ⟨rfl,hb1⟩
   have hw1:=below_lift3 hw0 hb1
   go_wp2_with fail
   go_ret
   exact ⟨ret_int HR.out.symm,hw1⟩
  ·rw [hb] at HS1
   have K1:=Lib.hid hb
   clear hb
   go_wp2_with fail
   refine HS1.out.mono ?_
   rintro e w1 ⟨rfl,hb1⟩
   have hB1:=below_lift3 hb0 hb1
   have hw1:=below_lift3 hw0 hb1
   clear x0 x1 y0 y1 y2 y3 y4
   obtain ⟨⟨x0,x1⟩,y0,y1,y2,y3,y4⟩:=HT.out w1 hB1
   have HS2:=Lib.hid (HRX.out w1 hw1)
   cases hb:rX
   ·rw [hb] at HS2
    have HR:=Lib.hid (show res=3 by rw [HD.out];simp [hb,K1.out])
    clear hb
    go_wp2_with fail
    refine HS2.out.mono ?_
    rintro e w2 ⟨rfl,hb2⟩
    have hw2:=below_lift3 hw1 hb2
    go_wp2_with fail
    go_ret
    exact ⟨ret_int HR.out.symm,hw2⟩
   ·rw [hb] at HS2
    have K2:=Lib.hid hb
    clear hb
    go_wp2_with fail
    refine HS2.out.mono ?_
    rintro e w2 ⟨rfl,hb2⟩
    have hB2:=below_lift3 hB1 hb2
    have hw2:=below_lift3 hw1 hb2
    clear x0 x1 y0 y1 y2 y3 y4
    obtain ⟨⟨x0,x1⟩,y0,y1,y2,y3,y4⟩:=HT.out w2 hB2
    have HS3:=Lib.hid (HRD.out w2 hw2)
    cases hb:rD
    ·rw [hb] at HS3
     have HR:=Lib.hid (show res=3 by rw [HD.out];simp [hb,K1.out,K2.out])
     clear hb
     go_wp2_with fail
     refine HS3.out.mono ?_
     rintro e w3 ⟨rfl,hb3⟩
     have hw3:=below_lift3 hw2 hb3
     go_wp2_with fail
     go_ret
     exact ⟨ret_int HR.out.symm,hw3⟩
    ·rw [hb] at HS3
     have K3:=Lib.hid hb
     clear hb
     go_wp2_with fail
     refine HS3.out.mono ?_
     rintro e w3 ⟨rfl,hb3⟩
     have hB3:=below_lift3 hB2 hb3
     have hw3:=below_lift3 hw2 hb3
     clear x0 x1 y0 y1 y2 y3 y4
     obtain ⟨⟨x0,x1⟩,y0,y1,y2,y3,y4⟩:=HT.out w3 hB3
     have HS4:=Lib.hid (HRR.out w3 hw3)
     cases hb:rR
     ·rw [hb] at HS4
      have HR:=Lib.hid (show res=3 by rw [HD.out];simp [hb,K1.out,K2.out,K3.out])
      clear hb
      go_wp2_with fail
      refine HS4.out.mono ?_
      rintro e w4 ⟨rfl,hb4⟩
      have hw4:=below_lift3 hw3 hb4
      go_wp2_with fail
      go_ret
      exact ⟨ret_int HR.out.symm,hw4⟩
     ·rw [hb] at HS4
      have K4:=Lib.hid hb
      clear hb
      go_wp2_with fail
      refine HS4.out.mono ?_
      rintro e w4 ⟨rfl,hb4⟩
      have hB4:=below_lift3 hB3 hb4
      have hw4:=below_lift3 hw3 hb4
      clear x0 x1 y0 y1 y2 y3 y4
      obtain ⟨⟨x0,x1⟩,y0,y1,y2,y3,y4⟩:=HT.out w4 hB4
      have HS5:=Lib.hid (HRV.out w4 hw4)
      cases hb:rV
      ·rw [hb] at HS5
       have HR:=Lib.hid (show res=3 by rw [HD.out];simp [hb,K1.out,K2.out,K3.out,K4.out])
       clear hb
       go_wp2_with fail
       refine HS5.out.mono ?_
       rintro e w5 ⟨rfl,hb5⟩
       have hw5:=below_lift3 hw4 hb5
       go_wp2_with fail
       go_ret
       exact ⟨ret_int HR.out.symm,hw5⟩
      ·rw [hb] at HS5
       have K5:=Lib.hid hb
       clear hb
       go_wp2_with fail
       refine HS5.out.mono ?_
       rintro e w5 ⟨rfl,hb5⟩
       have hB5:=below_lift3 hB4 hb5
       have hw5:=below_lift3 hw4 hb5
       clear x0 x1 y0 y1 y2 y3 y4
       obtain ⟨⟨x0,x1⟩,y0,y1,y2,y3,y4⟩:=HT.out w5 hB5
       have HS6:=Lib.hid (HFI.out w5 hw5)
       cases hb:bX
       ·rw [hb] at HS6
        have HR:=Lib.hid (show res=24 by rw [HD.out];simp [hb,K1.out,K2.out,K3.out,K4.out,K5.out])
        clear hb
        go_wp2_with fail
        refine HS6.out.mono ?_
        rintro e w6 ⟨rfl,hb6⟩
        have hw6:=below_lift3 hw5 hb6
        go_wp2_with fail
        go_ret
        exact ⟨ret_int HR.out.symm,hw6⟩
       ·rw [hb] at HS6
        have K6:=Lib.hid hb
        clear hb
        go_wp2_with fail
        refine HS6.out.mono ?_
        rintro e w6 ⟨rfl,hb6⟩
        have hB6:=below_lift3 hB5 hb6
        have hw6:=below_lift3 hw5 hb6
        clear x0 x1 y0 y1 y2 y3 y4
        obtain ⟨⟨x0,x1⟩,y0,y1,y2,y3,y4⟩:=HT.out w6 hB6
        have HS7:=Lib.hid (HPV.out w6 hw6)
        go_wp2_with fail
        refine HS7.out.mono ?_
        rintro e w7 ⟨rfl,hb7⟩
        have hB7:=below_lift3 hB6 hb7
        have hw7:=below_lift3 hw6 hb7
        clear x0 x1 y0 y1 y2 y3 y4
        obtain ⟨⟨x0,x1⟩,y0,y1,y2,y3,y4⟩:=HT.out w7 hB7
        have HS8:=Lib.hid (HVL.out w7 hw7)
        go_wp2_with fail
        refine HS8.out.mono ?_
        rintro e w8 ⟨rfl,hb8⟩
        have hB8:=below_lift3 hB7 hb8
        have hw8:=below_lift3 hw7 hb8
        clear x0 x1 y0 y1 y2 y3 y4
        obtain ⟨⟨x0,x1⟩,y0,y1,y2,y3,y4⟩:=HT.out w8 hB8
        have HRP:=Lib.hid (show bP=true→res=0 from fun h=>by rw [HD.out];simp [h,K1.out,K2.out,K3.out,K4.out,K5.out,K6.out])
        have HRN:=Lib.hid (show bP=false→res=26 from fun h=>by rw [HD.out];simp [h,K1.out,K2.out,K3.out,K4.out,K5.out,K6.out])
        cases hq:pB
        ·have HR:=Lib.hid (HRN.out (by rw [HPB.out,hq];rfl))
         clear hq
         go_wp2_with fail
         go_ret
         exact ⟨ret_int HR.out.symm,hw8⟩
        ·have HQ:=Lib.hid hq
         clear hq
         by_cases hs:ps=aV
         ·subst hs
          by_cases h2:t2=0
          ·subst h2
           by_cases h1:t1=ps
           ·subst h1
            have HR:=Lib.hid (HRP.out (by rw [HPB.out,HQ.out];simp))
            go_wp2_with fail
            go_ret
            exact ⟨ret_int HR.out.symm,hw8⟩
           ·have h1':(t1 != ps)=true:=by simpa using h1
            have h1'':(t1 == ps)=false:=by simpa using h1
            have HR:=Lib.hid (HRN.out (by rw [HPB.out];simp [h1]))
            clear h1
            go_wp2_with fail
            go_ret
            exact ⟨ret_int HR.out.symm,hw8⟩
          ·have h2':(t2 != 0)=true:=by simpa using h2
           have h2'':(t2 == 0)=false:=by simpa using h2
           have HR:=Lib.hid (HRN.out (by rw [HPB.out];simp [h2]))
           clear h2
           go_wp2_with fail
           go_ret
           exact ⟨ret_int HR.out.symm,hw8⟩
         ·have hs':(ps != aV)=true:=by simpa using hs
          have hs'':(ps == aV)=false:=by simpa using hs
          have HR:=Lib.hid (HRN.out (by rw [HPB.out];simp [hs]))
          clear hs
          go_wp2_with fail
          go_ret
          exact ⟨ret_int HR.out.symm,hw8⟩
 ·by_cases e2:ak=2
  ·subst e2
   have HS1:=Lib.hid (HSZ.out w0)
   cases hb:bS
   ·rw [hb] at HS1
    have HR:=Lib.hid (show res=2 by rw [HD.out];simp [hb])
    clear hb
    go_wp2_with fail
    refine HS1.out.mono ?_
    rintro e w1 ⟨rfl,hb1⟩
    have hw1:=below_lift3 hw0 hb1
    go_wp2_with fail
    go_ret
    exact ⟨ret_int HR.out.symm,hw1⟩
   ·rw [hb] at HS1
    have K1:=Lib.hid hb
    clear hb
    go_wp2_with fail
    refine HS1.out.mono ?_
    rintro e w1 ⟨rfl,hb1⟩
    have hB1:=below_lift3 hb0 hb1
    have hw1:=below_lift3 hw0 hb1
    clear x0 x1 y0 y1 y2 y3 y4
    obtain ⟨⟨x0,x1⟩,y0,y1,y2,y3,y4⟩:=HT.out w1 hB1
    have HS2:=Lib.hid (HRX.out w1 hw1)
    cases hb:rX
    ·rw [hb] at HS2
     have HR:=Lib.hid (show res=3 by rw [HD.out];simp [hb,K1.out])
     clear hb
     go_wp2_with fail
     refine HS2.out.mono ?_
     rintro e w2 ⟨rfl,hb2⟩
     have hw2:=below_lift3 hw1 hb2
     go_wp2_with fail
     go_ret
     exact ⟨ret_int HR.out.symm,hw2⟩
    ·rw [hb] at HS2
     have K2:=Lib.hid hb
     clear hb
     go_wp2_with fail
     refine HS2.out.mono ?_
     rintro e w2 ⟨rfl,hb2⟩
     have hB2:=below_lift3 hB1 hb2
     have hw2:=below_lift3 hw1 hb2
     clear x0 x1 y0 y1 y2 y3 y4
     obtain ⟨⟨x0,x1⟩,y0,y1,y2,y3,y4⟩:=HT.out w2 hB2
     have HS3:=Lib.hid (HRD.out w2 hw2)
     cases hb:rD
     ·rw [hb] at HS3
      have HR:=Lib.hid (show res=3 by rw [HD.out];simp [hb,K1.out,K2.out])
      clear hb
      go_wp2_with fail
      refine HS3.out.mono ?_
      rintro e w3 ⟨rfl,hb3⟩
      have hw3:=below_lift3 hw2 hb3
      go_wp2_with fail
      go_ret
      exact ⟨ret_int HR.out.symm,hw3⟩
     ·rw [hb] at HS3
      have K3:=Lib.hid hb
      clear hb
      go_wp2_with fail
      refine HS3.out.mono ?_
      rintro e w3 ⟨rfl,hb3⟩
      have hB3:=below_lift3 hB2 hb3
      have hw3:=below_lift3 hw2 hb3
      clear x0 x1 y0 y1 y2 y3 y4
      obtain ⟨⟨x0,x1⟩,y0,y1,y2,y3,y4⟩:=HT.out w3 hB3
      have HS4:=Lib.hid (HRR.out w3 hw3)
      cases hb:rR
      ·rw [hb] at HS4
       have HR:=Lib.hid (show res=3 by rw [HD.out];simp [hb,K1.out,K2.out,K3.out])
       clear hb
       go_wp2_with fail
       refine HS4.out.mono ?_
       rintro e w4 ⟨rfl,hb4⟩
       have hw4:=below_lift3 hw3 hb4
       go_wp2_with fail
       go_ret
       exact ⟨ret_int HR.out.symm,hw4⟩
      ·rw [hb] at HS4
       have K4:=Lib.hid hb
       clear hb
       go_wp2_with fail
       refine HS4.out.mono ?_
       rintro e w4 ⟨rfl,hb4⟩
       have hB4:=below_lift3 hB3 hb4
       have hw4:=below_lift3 hw3 hb4
       clear x0 x1 y0 y1 y2 y3 y4
       obtain ⟨⟨x0,x1⟩,y0,y1,y2,y3,y4⟩:=HT.out w4 hB4
       have HS5:=Lib.hid (HRF.out w4 hw4)
       cases hb:bR
       ·rw [hb] at HS5
        have HR:=Lib.hid (show res=26 by rw [HD.out];simp [hb,K1.out,K2.out,K3.out,K4.out])
        clear hb
        go_wp2_with fail
        refine HS5.out.mono ?_
        rintro e w5 ⟨rfl,hb5⟩
        have hw5:=below_lift3 hw4 hb5
        go_wp2_with fail
        go_ret
        exact ⟨ret_int HR.out.symm,hw5⟩
       ·rw [hb] at HS5
        have K5:=Lib.hid hb
        clear hb
        go_wp2_with fail
        refine HS5.out.mono ?_
        rintro e w5 ⟨rfl,hb5⟩
        have hB5:=below_lift3 hB4 hb5
        have hw5:=below_lift3 hw4 hb5
        clear x0 x1 y0 y1 y2 y3 y4
        obtain ⟨⟨x0,x1⟩,y0,y1,y2,y3,y4⟩:=HT.out w5 hB5
        have HR:=Lib.hid (show res=0 by rw [HD.out];simp [K1.out,K2.out,K3.out,K4.out,K5.out])
        go_wp2_with fail
        go_ret
        exact ⟨ret_int HR.out.symm,hw5⟩
  ·by_cases e3:ak=3
   ·subst e3
    have HS1:=Lib.hid (HSZ.out w0)
    cases hb:bS
    ·rw [hb] at HS1
     have HR:=Lib.hid (show res=2 by rw [HD.out];simp [hb])
     clear hb
     go_wp2_with fail
     refine HS1.out.mono ?_
     rintro e w1 ⟨rfl,hb1⟩
     have hw1:=below_lift3 hw0 hb1
     go_wp2_with fail
     go_ret
     exact ⟨ret_int HR.out.symm,hw1⟩
    ·rw [hb] at HS1
     have K1:=Lib.hid hb
     clear hb
     go_wp2_with fail
     refine HS1.out.mono ?_
     rintro e w1 ⟨rfl,hb1⟩
     have hB1:=below_lift3 hb0 hb1
     have hw1:=below_lift3 hw0 hb1
     clear x0 x1 y0 y1 y2 y3 y4
     obtain ⟨⟨x0,x1⟩,y0,y1,y2,y3,y4⟩:=HT.out w1 hB1
     have HS2:=Lib.hid (HRX.out w1 hw1)
     cases hb:rX
     ·rw [hb] at HS2
      have HR:=Lib.hid (show res=3 by rw [HD.out];simp [hb,K1.out])
      clear hb
      go_wp2_with fail
      refine HS2.out.mono ?_
      rintro e w2 ⟨rfl,hb2⟩
      have hw2:=below_lift3 hw1 hb2
      go_wp2_with fail
      go_ret
      exact ⟨ret_int HR.out.symm,hw2⟩
     ·rw [hb] at HS2
      have K2:=Lib.hid hb
      clear hb
      go_wp2_with fail
      refine HS2.out.mono ?_
      rintro e w2 ⟨rfl,hb2⟩
      have hB2:=below_lift3 hB1 hb2
      have hw2:=below_lift3 hw1 hb2
      clear x0 x1 y0 y1 y2 y3 y4
      obtain ⟨⟨x0,x1⟩,y0,y1,y2,y3,y4⟩:=HT.out w2 hB2
      have HS3:=Lib.hid (HRD.out w2 hw2)
      cases hb:rD
      ·rw [hb] at HS3
       have HR:=Lib.hid (show res=3 by rw [HD.out];simp [hb,K1.out,K2.out])
       clear hb
       go_wp2_with fail
       refine HS3.out.mono ?_
       rintro e w3 ⟨rfl,hb3⟩
       have hw3:=below_lift3 hw2 hb3
       go_wp2_with fail
       go_ret
       exact ⟨ret_int HR.out.symm,hw3⟩
      ·rw [hb] at HS3
       have K3:=Lib.hid hb
       clear hb
       go_wp2_with fail
       refine HS3.out.mono ?_
       rintro e w3 ⟨rfl,hb3⟩
       have hB3:=below_lift3 hB2 hb3
       have hw3:=below_lift3 hw2 hb3
       clear x0 x1 y0 y1 y2 y3 y4
       obtain ⟨⟨x0,x1⟩,y0,y1,y2,y3,y4⟩:=HT.out w3 hB3
       have HS4:=Lib.hid (HRR.out w3 hw3)
       cases hb:rR
       ·rw [hb] at HS4
        have HR:=Lib.hid (show res=3 by rw [HD.out];simp [hb,K1.out,K2.out,K3.out])
        clear hb
        go_wp2_with fail
        refine HS4.out.mono ?_
        rintro e w4 ⟨rfl,hb4⟩
        have hw4:=below_lift3 hw3 hb4
        go_wp2_with fail
        go_ret
        exact ⟨ret_int HR.out.symm,hw4⟩
       ·rw [hb] at HS4
        have K4:=Lib.hid hb
        clear hb
        go_wp2_with fail
        refine HS4.out.mono ?_
        rintro e w4 ⟨rfl,hb4⟩
        have hB4:=below_lift3 hB3 hb4
        have hw4:=below_lift3 hw3 hb4
        clear x0 x1 y0 y1 y2 y3 y4
        obtain ⟨⟨x0,x1⟩,y0,y1,y2,y3,y4⟩:=HT.out w4 hB4
        have HS5:=Lib.hid (HFI.out w4 hw4)
        cases hb:bX
        ·rw [hb] at HS5
         have HR:=Lib.hid (show res=24 by rw [HD.out];simp [hb,K1.out,K2.out,K3.out,K4.out])
         clear hb
         go_wp2_with fail
         refine HS5.out.mono ?_
         rintro e w5 ⟨rfl,hb5⟩
         have hw5:=below_lift3 hw4 hb5
         go_wp2_with fail
         go_ret
         exact ⟨ret_int HR.out.symm,hw5⟩
        ·rw [hb] at HS5
         have K5:=Lib.hid hb
         clear hb
         go_wp2_with fail
         refine HS5.out.mono ?_
         rintro e w5 ⟨rfl,hb5⟩
         have hB5:=below_lift3 hB4 hb5
         have hw5:=below_lift3 hw4 hb5
         clear x0 x1 y0 y1 y2 y3 y4
         obtain ⟨⟨x0,x1⟩,y0,y1,y2,y3,y4⟩:=HT.out w5 hB5
         have HS6:=Lib.hid (HFA.out w5 hw5)
         cases hb:bF
         ·rw [hb] at HS6
          have HR:=Lib.hid (show res=25 by rw [HD.out];simp [hb,K1.out,K2.out,K3.out,K4.out,K5.out])
          clear hb
          go_wp2_with fail
          refine HS6.out.mono ?_
          rintro e w6 ⟨rfl,hb6⟩
          have hw6:=below_lift3 hw5 hb6
          go_wp2_with fail
          go_ret
          exact ⟨ret_int HR.out.symm,hw6⟩
         ·rw [hb] at HS6
          have K6:=Lib.hid hb
          clear hb
          go_wp2_with fail
          refine HS6.out.mono ?_
          rintro e w6 ⟨rfl,hb6⟩
          have hB6:=below_lift3 hB5 hb6
          have hw6:=below_lift3 hw5 hb6
          clear x0 x1 y0 y1 y2 y3 y4
          obtain ⟨⟨x0,x1⟩,y0,y1,y2,y3,y4⟩:=HT.out w6 hB6
          have HR:=Lib.hid (show res=0 by rw [HD.out];simp [K1.out,K2.out,K3.out,K4.out,K5.out,K6.out])
          go_wp2_with fail
          go_ret
          exact ⟨ret_int HR.out.symm,hw6⟩
   ·have g1:(ak == 1)=false:=by simpa using e1
    have g2:(ak == 2)=false:=by simpa using e2
    have g3:(ak == 3)=false:=by simpa using e3
    have HR:=Lib.hid (show res=8 by rw [HD.out,g1,g2,g3];simp)
    clear g1 g2 g3
    by_cases g:ak<1
    ·clear e1 e2 e3
     go_wp2_with fail
     go_ret
     exact ⟨ret_int HR.out.symm,hw0⟩
    ·have g':3<ak:=by omega
     clear e1 e2 e3
     go_wp2_with fail
     go_ret
     exact ⟨ret_int HR.out.symm,hw0⟩
end Go.Proofs.YtmppmdmekomjbaaGreatDoor

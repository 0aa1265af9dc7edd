/- linear: below, Proves, Refutes. (Printed by wip/lprog5.py.) -/
import Derived.Test.YtmppmdmekomjbaaGreatDoorG16
namespace Go.Proofs.YtmppmdmekomjbaaGreatDoor
open Go.RowKit Num
set_option linter.unusedVariables false
attribute [local go_sem] B_size B_get B_toList B_mk B_extract B_append
attribute [local go_sem high] run_max2
theorem ints_at {w:World} {A:Option Addr} {ns:List Int} {k:Nat} (h:Cells w A (ints ns)) (hk:k<ns.length):∃ b off,A=some ⟨b,off,none⟩∧w.cell? ⟨b,off+k,none⟩=some (.int .i64 ns[k]):=by
 obtain ⟨b,off,e,_,hc⟩:=h.at (by rw [ints_length];omega)
 refine ⟨b,off,e,?_⟩
 rw [hc k (by rw [ints_length];exact hk)];simp [ints]
theorem lim1_any (cost:List Int) (A R:Option Addr) (ca m cr q:Nat) (i:Nat) (w:World) (hi:i<cost.length) (hla:ca≤maxLen∧cost.length≤ca) (hq:w.heap[q]? = some (linO A cost.length ca R m cr)) (hC:Cells w A (ints cost)) :
  Calls Tryz.prog 126 #[.int .i64 i,.pointer (some ⟨q,0,none⟩)] w fun e w'=>e=.returned (.int .i64 cost[i])∧w'=w:=by
 unfold maxLen at hla
 obtain ⟨b,off,rfl,hc⟩:=ints_at hC hi
 have c0:w.cell? ⟨q,0,none⟩=some (.slice (some ⟨b,off,none⟩) cost.length ca):=by rw [cell_of_row w q 0 _ _ _ hq];rfl
 clear hC
 generalize cost[i]=n at *
 go_enter Tryz.func126,Tryz.ntmps126
 go_wp2_with fail
 go_ret
 exact ⟨rfl,rfl⟩
theorem lim2_any (i:Nat) (w:World):Calls Tryz.prog 94 #[.int .i64 i] w fun e w'=>e=.returned (.int .i64 0)∧w'=w:=by
 go_enter Tryz.func94,Tryz.ntmps94
 go_wp2_with fail
 go_ret
 exact ⟨rfl,rfl⟩
theorem col_len (cost:List Int) (rs:List RowV) (i:Nat):(col (linOf cost rs) i).length=rs.length:=by simp [col,linOf]
theorem col_at (cost:List Int) (rs:List RowV) (i k:Nat) (h:k<rs.length):(col (linOf cost rs) i)[k]? = some (rs[k].L.coef.getD i 0):=by
 unfold col linOf;rw [List.getElem?_map,List.getElem?_map,List.getElem?_eq_getElem h];rfl
theorem getD_fits {ns:List Int} (h:∀ n ∈ ns,fits n) (i:Nat):fits (ns.getD i 0):=by
 rw [List.getD_eq_getElem?_getD]
 rcases Nat.lt_or_ge i ns.length with h1 | h1
 ·rw [List.getElem?_eq_getElem h1];exact h _ (List.getElem_mem h1)
 ·rw [List.getElem?_eq_none h1];exact fits_zero
theorem col_fits {rs:List RowV} (cost:List Int) (i:Nat) (h:∀ r ∈ rs,r.ok):∀ n ∈ col (linOf cost rs) i,fits n:=by
 intro n hn
 simp only [col,linOf,List.map_map,List.mem_map] at hn
 obtain ⟨r,hr,rfl⟩:=hn
 exact getD_fits (h r hr).2.2.1 i
theorem range_all {f:Nat→Bool} {i:Nat} (h:(List.range i).all f=true) (h1:f i=true):(List.range (i+1)).all f=true:=by
 rw [List.range_succ,List.all_append,h];simp [h1]
theorem range_bad {f:Nat→Bool} {i n:Nat} (hi:i<n) (h1:f i=false):(List.range n).all f=false:=by
 rw [List.all_eq_false];exact ⟨i,List.mem_range.2 hi,by simp [h1]⟩
set_option maxHeartbeats 4000000 in
set_option maxRecDepth 100000 in
theorem lbelow1_any (cost:List Int) (rs:List RowV) (A:Option Addr) (ca:Nat) (R:Option Addr) (cr:Nat) (xs:List Str) (X:Option Addr) (cx:Nat) (q:Nat) (w:World) (hm:rs.length≤1000000) (hwf:∀ r ∈ rs,r.L.coef.length=cost.length) (hq:w.heap[q]? = some (linO A cost.length ca R rs.length cr)) (hp:LinAt w cost rs A ca R cr) (hx:RatsAt w xs X cx) (he:Env w) :
  Calls Tryz.prog 93 #[linV A cost.length ca R rs.length cr,.slice X xs.length cx,.func (Fn.func 126) #[] #[.pointer (some ⟨q,0,none⟩)]] w fun e w'=>e=.returned (.bool (belowB (linOf cost rs) xs cost))∧Below w.heap.size w w':=by
 have hla:=hp.la
 have hlr:=hp.lr
 have hlx:=hx.lx
 unfold maxLen at hla hlr hlx
 have b0:=new_below w (linO A cost.length ca R rs.length cr)
 have HP:=Lib.hid hp
 have HX:=Lib.hid hx
 have HWF:=Lib.hid hwf
 have HQ:=Lib.hid hq
 clear hp hx hwf
 have HBW:=Lib.hid (fun wr (h:Below (w.alloc (linO A cost.length ca R rs.length cr)).heap.size (w.alloc (linO A cost.length ca R rs.length cr)) wr)=>b0.trans (h.mono b0.size))
 have HV:=Lib.hid (show belowB (linOf cost rs) xs cost=(List.range cost.length).all (colB (linOf cost rs) xs cost) from rfl)
 go_enter Tryz.func93,Tryz.ntmps93
 go_wp2_with fail
 go_loopw [6,7,8,10,11,12,16] (fun _ _ _ _ _ _ i wr=>∃ k:Nat,k≤cost.length∧i=.int .i64 k∧(List.range k).all (colB (linOf cost rs) xs cost)=true∧Below (w.alloc (linO A cost.length ca R rs.length cr)).heap.size (w.alloc (linO A cost.length ca R rs.length cr)) wr) (fun _ _ _ _ _ _ i _=>cost.length - (intOf i).toNat)
 case atStart=>exact ⟨0,Nat.zero_le _,rfl,rfl,Below.refl _ _⟩
 case round =>
  obtain ⟨i,hk,rfl,hall,hbel0⟩:=hrel
  have HALL:=Lib.hid hall
  clear hall
  have hbel:=HBW.out wr hbel0
  have hlin:=lin_cells hbel0
  by_cases hlt:i<cost.length
  ·have HT:=Lib.hid (fun h=>range_all (f:=colB (linOf cost rs) xs cost) HALL.out h)
   have HB:=Lib.hid (fun h=>range_bad (f:=colB (linOf cost rs) xs cost) hlt h)
   have HCL:=Lib.hid (col_len cost rs i)
   have HCA:=Lib.hid (col_at cost rs i)
   have HCF:=Lib.hid (col_fits cost i HP.out.ok)
   have HRW:=Lib.hid (show colB (linOf cost rs) xs cost i=(decide ((timesQ (col (linOf cost rs) i) xs).2=0) && decide (cmpQ (timesQ (col (linOf cost rs) i) xs).1 (decI (cost[i]))≤0)) from by unfold colB;rw [show cost.getD i 0=cost[i] by rw [List.getD_eq_getElem?_getD,List.getElem?_eq_getElem hlt];rfl])
   generalize col (linOf cost rs) i=ns at *
   obtain ⟨d0,d1,d2⟩:=hlin
   have hlin:True:=trivial
   go_wp2_with (refine wp_mk0 el_int rfl _ _ rfl (w.alloc (linO A cost.length ca R rs.length cr)).heap.size _ .i64 .i64 _ rs.length rfl rfl rfl (by omega) (by unfold maxLen;omega) hbel0.size ?_;intro A0 wq hown0 hbq;have hbq0:=hbel0.trans hbq;obtain ⟨d3,d4,d5⟩:=lin_cells hbq0)
   clear d0 d1 d2 d3 d4 d5 hlin
   go_loopw [6,8,10,26] (fun _ v _ i2 wr=>∃ (k:Nat) (A2:Option Addr) (c2:Nat),k≤rs.length∧i2=.int .i64 k∧v=.slice A2 k c2∧OwnS wr (w.alloc (linO A cost.length ca R rs.length cr)).heap.size 3 A2 k c2 (ints (ns.take k))∧Below (w.alloc (linO A cost.length ca R rs.length cr)).heap.size (w.alloc (linO A cost.length ca R rs.length cr)) wr) (fun _ _ _ i2 _=>rs.length - (intOf i2).toNat)
   case atStart=>exact ⟨0,A0,rs.length,Nat.zero_le _,rfl,rfl,hown0,hbel0.trans hbq⟩
   case round =>
    obtain ⟨k,A2,c2,hkk,rfl,rfl,hown,hbl0⟩:=hrel
    clear hown0 hbq hbq0
    have hbl:=HBW.out wr hbl0
    by_cases hlt2:k<rs.length
    ·obtain ⟨bR,oR,rfl,hbR,hcR⟩:=HP.out.rows.at (by omega)
     have hc0:=(hbl.cell (p:=⟨bR,oR+k*3,none⟩) hbR).trans (hcR k hlt2).1
     have hc1:=(hbl.cell (p:=⟨bR,oR+k*3+1,none⟩) hbR).trans (hcR k hlt2).2.1
     have hc2:=(hbl.cell (p:=⟨bR,oR+k*3+2,none⟩) hbR).trans (hcR k hlt2).2.2
     clear hcR
     have hmr:=List.getElem_mem hlt2
     have hrw:=HWF.out rs[k] hmr
     have hrc:=HP.out.rows.2 rs[k] hmr
     have hrk:=HP.out.ok rs[k] hmr
     have htk:=HCA.out k hlt2
     generalize rs[k]=r at *
     have hil:i<r.L.coef.length:=by omega
     have hrl1:=hrk.1
     have hrl2:=hrk.2.1
     unfold maxLen at hrl2
     have n1:=new_below wr (.cells #[.slice r.A r.L.coef.length r.c,.int .i64 r.L.kind,.int .i64 r.L.right] 45)
     have hbA:=hbl.trans (n1.mono hbl.size)
     have hbA0:=hbl0.trans (n1.mono hbl0.size)
     obtain ⟨bC,oC,hCe,hcc⟩:=ints_at (hrc.below hbA) hil
     rw [show r.L.coef.getD i 0=r.L.coef[i] by rw [List.getD_eq_getElem?_getD,List.getElem?_eq_getElem hil];rfl] at htk
     have HTK:=Lib.hid (ints_take htk)
     clear htk hrk hrc hmr hrw
     generalize r.L.coef[i]=n at *
     rw [hCe] at hc0 n1 hbA hbA0 hcc
     have hown1:=hown.below n1
     go_wp2_with (at_builtin;refine wp_app1 el_int rfl _ _ rfl (w.alloc (linO A cost.length ca (some ⟨bR,oR,none⟩) rs.length cr)).heap.size _ _ _ _ _ (.int .i64 n) rfl hown1 (by rw [World.size_alloc];rfl) rfl (by unfold maxLen;omega) (by omega) hbA0.size ?_;intro A3 c3 w3 hown3 hb3)
     go_roundw
     case rel=>exact ⟨k+1,A3,c3,by omega,by go_num,rfl,by rw [HTK.out] at hown3;exact hown3,hbA0.trans hb3⟩
     case measure=>simp [intOf];omega
    ·have hkx:k=ns.length:=by have:=HCL.out;omega
     have HNS:=Lib.hid (show ns.take k=ns by rw [hkx,List.take_length])
     rw [HNS.out] at hown
     have hcap:=hown.cap
     have HTM:=Lib.hid (qtimes_any ns xs A2 X c2 cx wr (cells_ints' hkx hown) (HX.out.cells.below hbl) (by have:=HCL.out;unfold maxLen;omega) (by unfold maxLen;omega) HCF.out HX.out.len (he.below hbl))
     rw [← hkx] at HTM
     have hvl:=times_len ns xs
     have hfl:fits (cost[i]):=HP.out.fit _ (List.getElem_mem hlt)
     have hdl:=fits_len hfl
     clear hkx
     generalize timesQ ns xs=v at HTM hvl HRW
     obtain ⟨v1,v2⟩:=v
     have hvl1:v1.length≤8194:=hvl
     clear hvl
     by_cases hv:v2=0
     ·subst hv
      have HCM:=Lib.hid (fun (w:World) (he:Env w)=>qcmp_any v1 (decI (cost[i])) w (by omega) (by omega) he)
      have HO:=Lib.hid (fun (w:World) (ht:Tab w)=>qof_any (cost[i]) w hfl ht)
      by_cases hg:0<cmpQ v1 (decI (cost[i]))
      ·have HBB:=Lib.hid (show belowB (linOf cost rs) xs cost=false by rw [HV.out,HB.out (by rw [HRW.out];simp;omega)])
       generalize cmpQ v1 (decI (cost[i]))=cq at *
       go_wp2_with fail
       refine HTM.out.mono ?_
       rintro e w3 ⟨rfl,hb3⟩
       have a3:=hbl.trans (hb3.mono hbl.size)
       go_wp2_with fail
       refine (lim1_any cost A R ca rs.length cr q i w3 hlt (by unfold maxLen;omega) (row_on HQ.out a3) (HP.out.cells.below a3)).mono ?_
       rintro e w' ⟨rfl,h⟩;obtain rfl:=h.symm
       go_wp2_with fail
       refine (HO.out _ (he.below a3).1).mono ?_
       rintro e w4 ⟨rfl,hb4⟩
       have a4:=a3.trans (hb4.mono a3.size)
       go_wp2_with fail
       refine (HCM.out _ (he.below a4)).mono ?_
       rintro e w5 ⟨rfl,hb5⟩
       have a5:=a4.trans (hb5.mono a4.size)
       go_wp2_with fail
       go_ret
       exact ⟨ret_bool HBB.out.symm,a5⟩
      ·have HBB:=Lib.hid (HT.out (by rw [HRW.out];simp;omega))
       generalize cmpQ v1 (decI (cost[i]))=cq at *
       go_wp2_with fail
       refine HTM.out.mono ?_
       rintro e w3 ⟨rfl,hb3⟩
       have a3:=hbl.trans (hb3.mono hbl.size)
       go_wp2_with fail
       refine (lim1_any cost A R ca rs.length cr q i w3 hlt (by unfold maxLen;omega) (row_on HQ.out a3) (HP.out.cells.below a3)).mono ?_
       rintro e w' ⟨rfl,h⟩;obtain rfl:=h.symm
       go_wp2_with fail
       refine (HO.out _ (he.below a3).1).mono ?_
       rintro e w4 ⟨rfl,hb4⟩
       have a4:=a3.trans (hb4.mono a3.size)
       go_wp2_with fail
       refine (HCM.out _ (he.below a4)).mono ?_
       rintro e w5 ⟨rfl,hb5⟩
       have a5:=a4.trans (hb5.mono a4.size)
       go_wp2_with fail
       go_roundw
       case rel=>exact ⟨i+1,by omega,by go_num,HBB.out,((hbl0.trans (hb3.mono hbl0.size)).trans (hb4.mono (Nat.le_trans hbl0.size hb3.size))).trans (hb5.mono (Nat.le_trans (Nat.le_trans hbl0.size hb3.size) hb4.size))⟩
       case measure=>simp [intOf];omega
     ·have hv1:(v2 != 0)=true:=by simpa using hv
      have HBB:=Lib.hid (show belowB (linOf cost rs) xs cost=false by rw [HV.out,HB.out (by rw [HRW.out];simp [hv])])
      clear hv
      go_wp2_with fail
      refine HTM.out.mono ?_
      rintro e w3 ⟨rfl,hb3⟩
      go_wp2_with fail
      go_ret
      exact ⟨ret_bool HBB.out.symm,hbl.trans (hb3.mono hbl.size)⟩
  ·have hkx:i=cost.length:=by omega
   have HA:=Lib.hid (show belowB (linOf cost rs) xs cost=true by rw [HV.out,← hkx];exact HALL.out)
   clear hkx
   go_wp2_with fail
   go_ret
   exact ⟨ret_bool HA.out.symm,hbel⟩
set_option maxHeartbeats 4000000 in
set_option maxRecDepth 100000 in
theorem lbelow2_any (cost:List Int) (rs:List RowV) (A:Option Addr) (ca:Nat) (R:Option Addr) (cr:Nat) (xs:List Str) (X:Option Addr) (cx:Nat) (w:World) (hm:rs.length≤1000000) (hwf:∀ r ∈ rs,r.L.coef.length=cost.length) (hp:LinAt w cost rs A ca R cr) (hx:RatsAt w xs X cx) (he:Env w) :
  Calls Tryz.prog 93 #[linV A cost.length ca R rs.length cr,.slice X xs.length cx,.func (Fn.func 94) #[] #[]] w fun e w'=>e=.returned (.bool (belowB (linOf cost rs) xs []))∧Below w.heap.size w w':=by
 have hla:=hp.la
 have hlr:=hp.lr
 have hlx:=hx.lx
 unfold maxLen at hla hlr hlx
 have b0:=new_below w (linO A cost.length ca R rs.length cr)
 have HP:=Lib.hid hp
 have HX:=Lib.hid hx
 have HWF:=Lib.hid hwf
 clear hp hx hwf
 have HBW:=Lib.hid (fun wr (h:Below (w.alloc (linO A cost.length ca R rs.length cr)).heap.size (w.alloc (linO A cost.length ca R rs.length cr)) wr)=>b0.trans (h.mono b0.size))
 have HV:=Lib.hid (show belowB (linOf cost rs) xs []=(List.range cost.length).all (colB (linOf cost rs) xs []) from rfl)
 go_enter Tryz.func93,Tryz.ntmps93
 go_wp2_with fail
 go_loopw [6,7,8,10,11,12,16] (fun _ _ _ _ _ _ i wr=>∃ k:Nat,k≤cost.length∧i=.int .i64 k∧(List.range k).all (colB (linOf cost rs) xs [])=true∧Below (w.alloc (linO A cost.length ca R rs.length cr)).heap.size (w.alloc (linO A cost.length ca R rs.length cr)) wr) (fun _ _ _ _ _ _ i _=>cost.length - (intOf i).toNat)
 case atStart=>exact ⟨0,Nat.zero_le _,rfl,rfl,Below.refl _ _⟩
 case round =>
  obtain ⟨i,hk,rfl,hall,hbel0⟩:=hrel
  have HALL:=Lib.hid hall
  clear hall
  have hbel:=HBW.out wr hbel0
  have hlin:=lin_cells hbel0
  by_cases hlt:i<cost.length
  ·have HT:=Lib.hid (fun h=>range_all (f:=colB (linOf cost rs) xs []) HALL.out h)
   have HB:=Lib.hid (fun h=>range_bad (f:=colB (linOf cost rs) xs []) hlt h)
   have HCL:=Lib.hid (col_len cost rs i)
   have HCA:=Lib.hid (col_at cost rs i)
   have HCF:=Lib.hid (col_fits cost i HP.out.ok)
   have HRW:=Lib.hid (show colB (linOf cost rs) xs [] i=(decide ((timesQ (col (linOf cost rs) i) xs).2=0) && decide (cmpQ (timesQ (col (linOf cost rs) i) xs).1 (decI (0))≤0)) from rfl)
   generalize col (linOf cost rs) i=ns at *
   obtain ⟨d0,d1,d2⟩:=hlin
   have hlin:True:=trivial
   go_wp2_with (refine wp_mk0 el_int rfl _ _ rfl (w.alloc (linO A cost.length ca R rs.length cr)).heap.size _ .i64 .i64 _ rs.length rfl rfl rfl (by omega) (by unfold maxLen;omega) hbel0.size ?_;intro A0 wq hown0 hbq;have hbq0:=hbel0.trans hbq;obtain ⟨d3,d4,d5⟩:=lin_cells hbq0)
   clear d0 d1 d2 d3 d4 d5 hlin
   go_loopw [6,8,10,26] (fun _ v _ i2 wr=>∃ (k:Nat) (A2:Option Addr) (c2:Nat),k≤rs.length∧i2=.int .i64 k∧v=.slice A2 k c2∧OwnS wr (w.alloc (linO A cost.length ca R rs.length cr)).heap.size 3 A2 k c2 (ints (ns.take k))∧Below (w.alloc (linO A cost.length ca R rs.length cr)).heap.size (w.alloc (linO A cost.length ca R rs.length cr)) wr) (fun _ _ _ i2 _=>rs.length - (intOf i2).toNat)
   case atStart=>exact ⟨0,A0,rs.length,Nat.zero_le _,rfl,rfl,hown0,hbel0.trans hbq⟩
   case round =>
    obtain ⟨k,A2,c2,hkk,rfl,rfl,hown,hbl0⟩:=hrel
    clear hown0 hbq hbq0
    have hbl:=HBW.out wr hbl0
    by_cases hlt2:k<rs.length
    ·obtain ⟨bR,oR,rfl,hbR,hcR⟩:=HP.out.rows.at (by omega)
     have hc0:=(hbl.cell (p:=⟨bR,oR+k*3,none⟩) hbR).trans (hcR k hlt2).1
     have hc1:=(hbl.cell (p:=⟨bR,oR+k*3+1,none⟩) hbR).trans (hcR k hlt2).2.1
     have hc2:=(hbl.cell (p:=⟨bR,oR+k*3+2,none⟩) hbR).trans (hcR k hlt2).2.2
     clear hcR
     have hmr:=List.getElem_mem hlt2
     have hrw:=HWF.out rs[k] hmr
     have hrc:=HP.out.rows.2 rs[k] hmr
     have hrk:=HP.out.ok rs[k] hmr
     have htk:=HCA.out k hlt2
     generalize rs[k]=r at *
     have hil:i<r.L.coef.length:=by omega
     have hrl1:=hrk.1
     have hrl2:=hrk.2.1
     unfold maxLen at hrl2
     have n1:=new_below wr (.cells #[.slice r.A r.L.coef.length r.c,.int .i64 r.L.kind,.int .i64 r.L.right] 45)
     have hbA:=hbl.trans (n1.mono hbl.size)
     have hbA0:=hbl0.trans (n1.mono hbl0.size)
     obtain ⟨bC,oC,hCe,hcc⟩:=ints_at (hrc.below hbA) hil
     rw [show r.L.coef.getD i 0=r.L.coef[i] by rw [List.getD_eq_getElem?_getD,List.getElem?_eq_getElem hil];rfl] at htk
     have HTK:=Lib.hid (ints_take htk)
     clear htk hrk hrc hmr hrw
     generalize r.L.coef[i]=n at *
     rw [hCe] at hc0 n1 hbA hbA0 hcc
     have hown1:=hown.below n1
     go_wp2_with (at_builtin;refine wp_app1 el_int rfl _ _ rfl (w.alloc (linO A cost.length ca (some ⟨bR,oR,none⟩) rs.length cr)).heap.size _ _ _ _ _ (.int .i64 n) rfl hown1 (by rw [World.size_alloc];rfl) rfl (by unfold maxLen;omega) (by omega) hbA0.size ?_;intro A3 c3 w3 hown3 hb3)
     go_roundw
     case rel=>exact ⟨k+1,A3,c3,by omega,by go_num,rfl,by rw [HTK.out] at hown3;exact hown3,hbA0.trans hb3⟩
     case measure=>simp [intOf];omega
    ·have hkx:k=ns.length:=by have:=HCL.out;omega
     have HNS:=Lib.hid (show ns.take k=ns by rw [hkx,List.take_length])
     rw [HNS.out] at hown
     have hcap:=hown.cap
     have HTM:=Lib.hid (qtimes_any ns xs A2 X c2 cx wr (cells_ints' hkx hown) (HX.out.cells.below hbl) (by have:=HCL.out;unfold maxLen;omega) (by unfold maxLen;omega) HCF.out HX.out.len (he.below hbl))
     rw [← hkx] at HTM
     have hvl:=times_len ns xs
     have hfl:fits (0):=fits_zero
     have hdl:=fits_len hfl
     clear hkx
     generalize timesQ ns xs=v at HTM hvl HRW
     obtain ⟨v1,v2⟩:=v
     have hvl1:v1.length≤8194:=hvl
     clear hvl
     by_cases hv:v2=0
     ·subst hv
      have HCM:=Lib.hid (fun (w:World) (he:Env w)=>qcmp_any v1 (decI (0)) w (by omega) (by omega) he)
      have HO:=Lib.hid (fun (w:World) (ht:Tab w)=>qof_any (0) w hfl ht)
      by_cases hg:0<cmpQ v1 (decI (0))
      ·have HBB:=Lib.hid (show belowB (linOf cost rs) xs []=false by rw [HV.out,HB.out (by rw [HRW.out];simp;omega)])
       generalize cmpQ v1 (decI (0))=cq at *
       go_wp2_with fail
       refine HTM.out.mono ?_
       rintro e w3 ⟨rfl,hb3⟩
       have a3:=hbl.trans (hb3.mono hbl.size)
       go_wp2_with fail
       refine (lim2_any i w3).mono ?_
       rintro e w' ⟨rfl,h⟩;obtain rfl:=h.symm
       go_wp2_with fail
       refine (HO.out _ (he.below a3).1).mono ?_
       rintro e w4 ⟨rfl,hb4⟩
       have a4:=a3.trans (hb4.mono a3.size)
       go_wp2_with fail
       refine (HCM.out _ (he.below a4)).mono ?_
       rintro e w5 ⟨rfl,hb5⟩
       have a5:=a4.trans (hb5.mono a4.size)
       go_wp2_with fail
       go_ret
       exact ⟨ret_bool HBB.out.symm,a5⟩
      ·have HBB:=Lib.hid (HT.out (by rw [HRW.out];simp;omega))
       generalize cmpQ v1 (decI (0))=cq at *
       go_wp2_with fail
       refine HTM.out.mono ?_
       rintro e w3 ⟨rfl,hb3⟩
       have a3:=hbl.trans (hb3.mono hbl.size)
       go_wp2_with fail
       refine (lim2_any i w3).mono ?_
       rintro e w' ⟨rfl,h⟩;obtain rfl:=h.symm
       go_wp2_with fail
       refine (HO.out _ (he.below a3).1).mono ?_
       rintro e w4 ⟨rfl,hb4⟩
       have a4:=a3.trans (hb4.mono a3.size)
       go_wp2_with fail
       refine (HCM.out _ (he.below a4)).mono ?_
       rintro e w5 ⟨rfl,hb5⟩
       have a5:=a4.trans (hb5.mono a4.size)
       go_wp2_with fail
       go_roundw
       case rel=>exact ⟨i+1,by omega,by go_num,HBB.out,((hbl0.trans (hb3.mono hbl0.size)).trans (hb4.mono (Nat.le_trans hbl0.size hb3.size))).trans (hb5.mono (Nat.le_trans (Nat.le_trans hbl0.size hb3.size) hb4.size))⟩
       case measure=>simp [intOf];omega
     ·have hv1:(v2 != 0)=true:=by simpa using hv
      have HBB:=Lib.hid (show belowB (linOf cost rs) xs []=false by rw [HV.out,HB.out (by rw [HRW.out];simp [hv])])
      clear hv
      go_wp2_with fail
      refine HTM.out.mono ?_
      rintro e w3 ⟨rfl,hb3⟩
      go_wp2_with fail
      go_ret
      exact ⟨ret_bool HBB.out.symm,hbl.trans (hb3.mono hbl.size)⟩
  ·have hkx:i=cost.length:=by omega
   have HA:=Lib.hid (show belowB (linOf cost rs) xs []=true by rw [HV.out,← hkx];exact HALL.out)
   clear hkx
   go_wp2_with fail
   go_ret
   exact ⟨ret_bool HA.out.symm,hbel⟩
theorem ret_sb {a b:List UInt8} {c d:Bool} (h:a=b) (h2:c=d):Ending.returned (.tuple #[.string (B a),.bool c])=.returned (.tuple #[.string (B b),.bool d]):=by rw [h,h2]
set_option maxHeartbeats 2000000 in
set_option maxRecDepth 100000 in
theorem lproves_any (cost:List Int) (rs:List RowV) (A:Option Addr) (ca:Nat) (R:Option Addr) (cr:Nat) (xs:List Str) (X:Option Addr) (cx:Nat) (w:World) (hm:rs.length≤1000000) (hwf:∀ r ∈ rs,r.L.coef.length=cost.length) (hp:LinAt w cost rs A ca R cr) (hx:RatsAt w xs X cx) (he:Env w) :
  Calls Tryz.prog 91 #[linV A cost.length ca R rs.length cr,.slice X xs.length cx] w fun e w'=>e=.returned (.tuple #[.string (B (provesS (linOf cost rs) xs)),.bool (provesB (linOf cost rs) xs)])∧Below w.heap.size w w':=by
 have b0:=new_below w (linO A cost.length ca R rs.length cr)
 have HP:=Lib.hid hp
 have HX:=Lib.hid hx
 have HS:=Lib.hid (fun (w:World) (hp:LinAt w cost rs A ca R cr) (hx:RatsAt w xs X cx) (he:Env w)=>lsigns_any cost rs A ca R cr xs X cx w hp hx he)
 have HL:=Lib.hid (fun (q:Nat) (w:World) (hq:w.heap[q]? = some (linO A cost.length ca R rs.length cr)) (hp:LinAt w cost rs A ca R cr) (hx:RatsAt w xs X cx) (he:Env w)=>lbelow1_any cost rs A ca R cr xs X cx q w hm hwf hq hp hx he)
 have HB:=Lib.hid (fun (w:World) (hp:LinAt w cost rs A ca R cr) (hx:RatsAt w xs X cx) (he:Env w)=>lbound_any cost rs A ca R cr xs X cx w hm hp hx he)
 have HVB:=Lib.hid (show provesB (linOf cost rs) xs=(signsB (linOf cost rs) xs && belowB (linOf cost rs) xs cost && decide ((timesQ (rightsL (linOf cost rs)) xs).2=0)) from rfl)
 have HVS:=Lib.hid (show provesS (linOf cost rs) xs=if provesB (linOf cost rs) xs=true then (timesQ (rightsL (linOf cost rs)) xs).1 else [] from rfl)
 clear hp hx hm hwf
 have HBW:=Lib.hid (fun wr (h:Below (w.alloc (linO A cost.length ca R rs.length cr)).heap.size (w.alloc (linO A cost.length ca R rs.length cr)) wr)=>b0.trans (h.mono b0.size))
 cases h1:signsB (linOf cost rs) xs
 ·rw [h1] at HS
  have HR:=Lib.hid (show provesB (linOf cost rs) xs=false by rw [HVB.out,h1];rfl)
  have HR2:=Lib.hid (show provesS (linOf cost rs) xs=[] by rw [HVS.out,HR.out];rfl)
  clear h1
  go_enter Tryz.func91,Tryz.ntmps91
  simp only [B_mk]
  go_wp2_with fail
  refine (HS.out _ (HP.out.below b0) (HX.out.below b0) (he.below b0)).mono ?_
  rintro e w1 ⟨rfl,hb1⟩
  go_wp2_with fail
  go_ret2
  exact ⟨ret_sb HR2.out.symm HR.out.symm,HBW.out _ hb1⟩
 rw [h1] at HS
 cases h2:belowB (linOf cost rs) xs cost
 ·rw [h2] at HL
  have HR:=Lib.hid (show provesB (linOf cost rs) xs=false by rw [HVB.out,h1,h2];rfl)
  have HR2:=Lib.hid (show provesS (linOf cost rs) xs=[] by rw [HVS.out,HR.out];rfl)
  clear h1 h2
  go_enter Tryz.func91,Tryz.ntmps91
  simp only [B_mk]
  go_wp2_with fail
  refine (HS.out _ (HP.out.below b0) (HX.out.below b0) (he.below b0)).mono ?_
  rintro e w1 ⟨rfl,hb1⟩
  have a1:=HBW.out _ hb1
  obtain ⟨d0,d1,d2⟩:=lin_cells hb1
  go_wp2_with fail
  refine (HL.out w.heap.size w1 (row_on row_new hb1) (HP.out.below a1) (HX.out.below a1) (he.below a1)).mono ?_
  rintro e w2 ⟨rfl,hb2⟩
  have a2:=a1.trans (hb2.mono a1.size)
  go_wp2_with fail
  go_ret2
  exact ⟨ret_sb HR2.out.symm HR.out.symm,a2⟩
 rw [h2] at HL
 generalize hv:timesQ (rightsL (linOf cost rs)) xs=v at HB
 have HVV:=Lib.hid hv
 clear hv
 obtain ⟨v1,v2⟩:=v
 have HR:=Lib.hid (show provesB (linOf cost rs) xs=(v2 == 0) by rw [HVB.out,h1,h2,HVV.out];by_cases h:v2=0 <;> simp [h])
 have HR2:=Lib.hid (show provesS (linOf cost rs) xs=if (v2 == 0)=true then v1 else [] by rw [HVS.out,HR.out,HVV.out])
 clear h1 h2
 cases h3:(v2 == 0)
 ·have HR2':=Lib.hid (show provesS (linOf cost rs) xs=[] by rw [HR2.out,h3];rfl)
  have HR':=Lib.hid (show provesB (linOf cost rs) xs=false by rw [HR.out,h3])
  have h3':(v2 != 0)=true:=by simpa using h3
  go_enter Tryz.func91,Tryz.ntmps91
  simp only [B_mk]
  go_wp2_with fail
  refine (HS.out _ (HP.out.below b0) (HX.out.below b0) (he.below b0)).mono ?_
  rintro e w1 ⟨rfl,hb1⟩
  have a1:=HBW.out _ hb1
  obtain ⟨d0,d1,d2⟩:=lin_cells hb1
  go_wp2_with fail
  refine (HL.out w.heap.size w1 (row_on row_new hb1) (HP.out.below a1) (HX.out.below a1) (he.below a1)).mono ?_
  rintro e w2 ⟨rfl,hb2⟩
  have a2:=a1.trans (hb2.mono a1.size)
  have hb12:=hb1.trans (hb2.mono hb1.size)
  obtain ⟨d3,d4,d5⟩:=lin_cells hb12
  go_wp2_with fail
  refine (HB.out w2 (HP.out.below a2) (HX.out.below a2) (he.below a2)).mono ?_
  rintro e w3 ⟨rfl,hb3⟩
  go_wp2_with fail
  go_ret2
  exact ⟨ret_sb HR2'.out.symm HR'.out.symm,a2.trans (hb3.mono a2.size)⟩
 ·have HR2':=Lib.hid (show provesS (linOf cost rs) xs=v1 by rw [HR2.out,h3];rfl)
  have HR':=Lib.hid (show provesB (linOf cost rs) xs=true by rw [HR.out,h3])
  go_enter Tryz.func91,Tryz.ntmps91
  simp only [B_mk]
  go_wp2_with fail
  refine (HS.out _ (HP.out.below b0) (HX.out.below b0) (he.below b0)).mono ?_
  rintro e w1 ⟨rfl,hb1⟩
  have a1:=HBW.out _ hb1
  obtain ⟨d0,d1,d2⟩:=lin_cells hb1
  go_wp2_with fail
  refine (HL.out w.heap.size w1 (row_on row_new hb1) (HP.out.below a1) (HX.out.below a1) (he.below a1)).mono ?_
  rintro e w2 ⟨rfl,hb2⟩
  have a2:=a1.trans (hb2.mono a1.size)
  have hb12:=hb1.trans (hb2.mono hb1.size)
  obtain ⟨d3,d4,d5⟩:=lin_cells hb12
  go_wp2_with fail
  refine (HB.out w2 (HP.out.below a2) (HX.out.below a2) (he.below a2)).mono ?_
  rintro e w3 ⟨rfl,hb3⟩
  go_wp2_with fail
  go_ret2
  exact ⟨ret_sb HR2'.out.symm HR'.out.symm,a2.trans (hb3.mono a2.size)⟩
set_option maxHeartbeats 2000000 in
set_option maxRecDepth 100000 in
theorem lrefutes_any (cost:List Int) (rs:List RowV) (A:Option Addr) (ca:Nat) (R:Option Addr) (cr:Nat) (xs:List Str) (X:Option Addr) (cx:Nat) (w:World) (hm:rs.length≤1000000) (hwf:∀ r ∈ rs,r.L.coef.length=cost.length) (hp:LinAt w cost rs A ca R cr) (hx:RatsAt w xs X cx) (he:Env w) :
  Calls Tryz.prog 51 #[linV A cost.length ca R rs.length cr,.slice X xs.length cx] w fun e w'=>e=.returned (.bool (refutesB (linOf cost rs) xs))∧Below w.heap.size w w':=by
 have b0:=new_below w (linO A cost.length ca R rs.length cr)
 have HP:=Lib.hid hp
 have HX:=Lib.hid hx
 have HS:=Lib.hid (fun (w:World) (hp:LinAt w cost rs A ca R cr) (hx:RatsAt w xs X cx) (he:Env w)=>lsigns_any cost rs A ca R cr xs X cx w hp hx he)
 have HL:=Lib.hid (fun (w:World) (hp:LinAt w cost rs A ca R cr) (hx:RatsAt w xs X cx) (he:Env w)=>lbelow2_any cost rs A ca R cr xs X cx w hm hwf hp hx he)
 have HB:=Lib.hid (fun (w:World) (hp:LinAt w cost rs A ca R cr) (hx:RatsAt w xs X cx) (he:Env w)=>lbound_any cost rs A ca R cr xs X cx w hm hp hx he)
 have HVB:=Lib.hid (show refutesB (linOf cost rs) xs=(signsB (linOf cost rs) xs && belowB (linOf cost rs) xs [] && decide ((timesQ (rightsL (linOf cost rs)) xs).2=0) && decide (0<signQ (timesQ (rightsL (linOf cost rs)) xs).1)) from rfl)
 clear hp hx hm hwf
 have HBW:=Lib.hid (fun wr (h:Below (w.alloc (linO A cost.length ca R rs.length cr)).heap.size (w.alloc (linO A cost.length ca R rs.length cr)) wr)=>b0.trans (h.mono b0.size))
 cases h1:signsB (linOf cost rs) xs
 ·rw [h1] at HS
  have HR:=Lib.hid (show refutesB (linOf cost rs) xs=false by rw [HVB.out,h1];rfl)
  clear h1
  go_enter Tryz.func51,Tryz.ntmps51
  go_wp2_with fail
  refine (HS.out _ (HP.out.below b0) (HX.out.below b0) (he.below b0)).mono ?_
  rintro e w1 ⟨rfl,hb1⟩
  go_wp2_with fail
  go_ret
  exact ⟨ret_bool HR.out.symm,HBW.out _ hb1⟩
 rw [h1] at HS
 cases h2:belowB (linOf cost rs) xs []
 ·rw [h2] at HL
  have HR:=Lib.hid (show refutesB (linOf cost rs) xs=false by rw [HVB.out,h1,h2];rfl)
  clear h1 h2
  go_enter Tryz.func51,Tryz.ntmps51
  go_wp2_with fail
  refine (HS.out _ (HP.out.below b0) (HX.out.below b0) (he.below b0)).mono ?_
  rintro e w1 ⟨rfl,hb1⟩
  have a1:=HBW.out _ hb1
  obtain ⟨d0,d1,d2⟩:=lin_cells hb1
  go_wp2_with fail
  refine (HL.out w1 (HP.out.below a1) (HX.out.below a1) (he.below a1)).mono ?_
  rintro e w2 ⟨rfl,hb2⟩
  have a2:=a1.trans (hb2.mono a1.size)
  go_wp2_with fail
  go_ret
  exact ⟨ret_bool HR.out.symm,a2⟩
 rw [h2] at HL
 have hvl:=times_len (rightsL (linOf cost rs)) xs
 generalize hv:timesQ (rightsL (linOf cost rs)) xs=v at HB hvl
 have HVV:=Lib.hid hv
 clear hv
 obtain ⟨v1,v2⟩:=v
 have hvl1:v1.length≤8194:=hvl
 clear hvl
 have HSG:=Lib.hid (fun (w:World) (he:Env w)=>qsign_any v1 w (by omega) he)
 have HR:=Lib.hid (show refutesB (linOf cost rs) xs=((v2 == 0) && decide (0<signQ v1)) by rw [HVB.out,h1,h2,HVV.out];by_cases h:v2=0 <;> simp [h])
 clear h1 h2
 generalize signQ v1=sg at *
 cases h3:(v2 == 0)
 ·have HR':=Lib.hid (show refutesB (linOf cost rs) xs=false by rw [HR.out,h3];rfl)
  have h3':(v2 != 0)=true:=by simpa using h3
  go_enter Tryz.func51,Tryz.ntmps51
  go_wp2_with fail
  refine (HS.out _ (HP.out.below b0) (HX.out.below b0) (he.below b0)).mono ?_
  rintro e w1 ⟨rfl,hb1⟩
  have a1:=HBW.out _ hb1
  obtain ⟨d0,d1,d2⟩:=lin_cells hb1
  go_wp2_with fail
  refine (HL.out w1 (HP.out.below a1) (HX.out.below a1) (he.below a1)).mono ?_
  rintro e w2 ⟨rfl,hb2⟩
  have a2:=a1.trans (hb2.mono a1.size)
  have hb12:=hb1.trans (hb2.mono hb1.size)
  obtain ⟨d3,d4,d5⟩:=lin_cells hb12
  go_wp2_with fail
  refine (HB.out w2 (HP.out.below a2) (HX.out.below a2) (he.below a2)).mono ?_
  rintro e w3 ⟨rfl,hb3⟩
  go_wp2_with fail
  go_ret
  exact ⟨ret_bool HR'.out.symm,a2.trans (hb3.mono a2.size)⟩
 ·have HR':=Lib.hid (show refutesB (linOf cost rs) xs=decide (0<sg) by rw [HR.out,h3];rfl)
  go_enter Tryz.func51,Tryz.ntmps51
  go_wp2_with fail
  refine (HS.out _ (HP.out.below b0) (HX.out.below b0) (he.below b0)).mono ?_
  rintro e w1 ⟨rfl,hb1⟩
  have a1:=HBW.out _ hb1
  obtain ⟨d0,d1,d2⟩:=lin_cells hb1
  go_wp2_with fail
  refine (HL.out w1 (HP.out.below a1) (HX.out.below a1) (he.below a1)).mono ?_
  rintro e w2 ⟨rfl,hb2⟩
  have a2:=a1.trans (hb2.mono a1.size)
  have hb12:=hb1.trans (hb2.mono hb1.size)
  obtain ⟨d3,d4,d5⟩:=lin_cells hb12
  go_wp2_with fail
  refine (HB.out w2 (HP.out.below a2) (HX.out.below a2) (he.below a2)).mono ?_
  rintro e w3 ⟨rfl,hb3⟩
  have a3:=a2.trans (hb3.mono a2.size)
  go_wp2_with fail
  refine (HSG.out w3 (he.below a3)).mono ?_
  rintro e w4 ⟨rfl,hb4⟩
  go_wp2_with fail
  go_ret
  exact ⟨ret_bool HR'.out.symm,a3.trans (hb4.mono a3.size)⟩
end Go.Proofs.YtmppmdmekomjbaaGreatDoor

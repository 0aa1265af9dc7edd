/- lorryref26: pivot. -/
import Derived.Test.YtmppmdmekomjbaaGreatDoorG41
import Derived.Test.YtmppmdmekomjbaaGreatDoorG33
import Derived.Test.YtmppmdmekomjbaaGreatDoorG35
import Derived.Test.YtmppmdmekomjbaaGreatDoorRRef5
import Derived.BigQuiet
namespace Go.Proofs.YtmppmdmekomjbaaGreatDoor
open Go.RowKit Num
set_option linter.unusedVariables false
attribute [local go_sem] B_size B_get B_toList B_mk B_extract B_append
attribute [local go_sem high] run_max2
def pvM (E:List (List Str)) (row col i:Nat):List (List Str):=(clrM E row col i).set row (E.getD row [])
theorem pv_zero {E:List (List Str)} {row col:Nat}:pvM E row col 0=E:=by
 unfold pvM;rw [clr_zero,List.set_set,sxset_self]
theorem pv_len (E:List (List Str)) (row col i:Nat):(pvM E row col i).length=E.length:=by unfold pvM;rw [List.length_set,clrM_len]
section
variable {D k row col:Nat} {E:List (List Str)} (hO:ClearOps D k E row col)
include hO
theorem pv_end:(pvM E row col E.length).set row (scaleR (E.getD row []) (cellM E row col))=clearM E row col:=by
 unfold pvM
 rw [List.set_set,clr_full]
 have h:=clearM_row (M:=E) (row:=row) (col:=col) hO.row_lt
 rw [if_pos rfl] at h
 rw [← h,sxset_self]
theorem pv_row {i l:Nat} (hl:l<E.length):(pvM E row col i).getD l []=if l<i∧l≠row then (clearM E row col).getD l [] else E.getD l []:=by
 unfold pvM
 rw [getD_set2 (by rw [clrM_len];exact hO.row_lt)]
 by_cases e:l=row
 ·rw [if_pos e,if_neg (fun h=>h.2 e),e]
 ·rw [if_neg e,hO.clr_row i hl]
  by_cases h:l<i
  ·rw [if_pos (.inl h),if_pos ⟨h,e⟩]
  ·rw [if_neg (fun h2=>h2.elim h e),if_neg (fun h2=>h h2.1)]
theorem pv_skip {i:Nat} (hi:i<E.length) (h:i=row∨cellM E i col=[48]):pvM E row col (i+1)=pvM E row col i:=by
 unfold pvM;rw [hO.clr_skip hi h]
theorem pv_next {i:Nat} (hi:i<E.length) (hne:i≠row):(pvM E row col i).set i (lessR (E.getD i []) (scaleR (E.getD row []) (cellM E row col)) (cellM E i col))=pvM E row col (i+1):=by
 unfold pvM
 rw [List.set_comm _ _ hne.symm,← clr_new hO hi hne,clr_succ hi]
end
theorem txl_ext {N:Nat} {xs ys:List Str} (h:TxL N (fun x s=>s=ys.getD x []) xs) (hl:ys.length=N):xs=ys:=by
 apply List.ext_getElem?
 intro i
 by_cases hi:i<N
 ·have h1:=h.2 i hi
  rw [List.getD_eq_getElem?_getD,List.getD_eq_getElem?_getD,List.getElem?_eq_getElem (by rw [h.1];exact hi),List.getElem?_eq_getElem (by omega)] at h1
  rw [List.getElem?_eq_getElem (by rw [h.1];exact hi),List.getElem?_eq_getElem (by omega)]
  exact congrArg some h1
 ·rw [List.getElem?_eq_none (by rw [h.1];omega),List.getElem?_eq_none (by omega)]
theorem SxK.say {w:World} {Bs:Nat} {H:KH} {vars aux:Nat} {rs:List VecV} {bs:List Nat} {tv:List Bool} (h:SxK w Bs H vars aux rs bs tv) (h0:0<rs.length):∃ g,H.A=some ⟨g,0,none⟩∧Bs≤g∧g<w.heap.size ∧
  (∀ w',Below w.heap.size w w'→w'.cell? ⟨H.kt,0,none⟩=some (.slice (some ⟨g,0,none⟩) rs.length H.c)∧w'.cell? ⟨H.kt,3,none⟩=some (.slice H.Bb bs.length H.cb)∧(∀ i (hi:i<rs.length),w'.cell? ⟨g,i,none⟩=some (.slice rs[i].A rs[i].xs.length rs[i].c))∧∀ j,w'.frozen? ⟨g,j,none⟩=false):=by
 obtain ⟨g,e,h1,h2,h3,h4⟩:=h.part.hdr h0
 refine ⟨g,e,h1,h2,fun w' hb=>⟨?_,?_,fun i hi=>(hb.cell (p:=⟨g,i,none⟩) h2).trans (h3 i hi),fun j=>(hb.frozen (p:=⟨g,j,none⟩) h2).trans (h4 j)⟩⟩
 ·rw [hb.cell (p:=⟨H.kt,0,none⟩) h.lt,h.cell 0,← e];rfl
 ·rw [hb.cell (p:=⟨H.kt,3,none⟩) h.lt,h.cell 3];rfl
theorem SxK.num {w:World} {Bs:Nat} {H:KH} {vars aux:Nat} {rs:List VecV} {bs:List Nat} {tv:List Bool} (h:SxK w Bs H vars aux rs bs tv) {i j:Nat} (hi:i<rs.length) (hj:j<rs[i].xs.length):∃ b off,rs[i].A=some ⟨b,off,none⟩∧b<w.heap.size∧∀ w',Below w.heap.size w w'→∀ j (hj:j<rs[i].xs.length),w'.cell? ⟨b,off+j,none⟩=some (.string (B (rs[i].xs.getD j []))):=by
 obtain ⟨b,off,e,h1,h2⟩:=(h.part.rows _ (List.getElem_mem hi)).at_ (by omega)
 refine ⟨b,off,e,h1,fun w' hb j hj=>?_⟩
 rw [hb.cell (p:=⟨b,off+j,none⟩) h1,h2 j hj,List.getD_eq_getElem?_getD,List.getElem?_eq_getElem hj];rfl
set_option maxHeartbeats 8000000 in
set_option maxRecDepth 100000 in
theorem rxpivot_any {D N row col vars aux:Nat} {E:List (List Str)} {bs:List Nat} {tv:List Bool} {vs:List VecV} {H:KH} (hO:ClearOps D N E row col) (hD:3*D+1≤4096) (Bs:Nat) (w:World)
  (hS:SxK w Bs H vars aux vs bs tv) (hE:rtx vs=E) (hrb:row<bs.length) (hN:N≤1000) (hm:vs.length≤500) (hbl:bs.length≤500) :
  Calls Tryz.prog 72 #[.pointer (some ⟨H.kt,0,none⟩),.int .i64 row,.int .i64 col] w fun e w'=>e=.returned (.tuple #[])∧(∃ vs',rtx vs'=clearM E row col∧SxK w' Bs H vars aux vs' (bs.set row col) tv)∧BlN Bs w w':=by
 have hr:=hO.row_lt
 have hc:=hO.col_lt
 have hvl:vs.length=E.length:=by rw [← hE,rtx_length]
 have hrv:row<vs.length:=by omega
 have hxr:vs[row].xs=E.getD row []:=by rw [← hE,rtx_get hrv]
 have hxl:vs[row].xs.length=N:=by rw [hxr];exact hO.rowlen hr
 obtain ⟨gA,hgA,hgA1,hgA2,hsay⟩:=hS.say (by omega)
 obtain ⟨br,ro,hbr,hbr2,hnum⟩:=hS.num (j:=0) hrv (by omega)
 have hcapA:=hS.part.outer.cap
 have hcapR:=(hS.part.rows _ (List.getElem_mem hrv)).cap
 rw [hxl] at hcapR
 unfold maxLen at hcapA hcapR
 have HSAY:=Lib.hid (fun w' (hb:Below w.heap.size w w')=>(show w'.cell? ⟨H.kt,0,none⟩=some (.slice (some ⟨gA,0,none⟩) vs.length H.c)∧w'.cell? ⟨gA,row,none⟩=some (.slice (some ⟨br,ro,none⟩) N vs[row].c)∧∀ j,j<N→w'.cell? ⟨br,ro+j,none⟩=some (.string (B (cellM E row j))) from by
  obtain ⟨h1,_,h2,_⟩:=hsay w' hb
  have h3:=h2 row hrv
  rw [hbr,hxl] at h3
  refine ⟨h1,h3,fun j hj=>?_⟩
  have h4:=hnum w' hb j (by rw [hxl];exact hj)
  rw [hxr] at h4
  exact h4))
 have HS:=Lib.hid hS
 have HVL:=Lib.hid hvl
 have HE:=Lib.hid hE
 have hcr:=hcapR.1
 generalize hrc:vs[row].c=rc at *
 have hkt:=hS.lt
 have hktB:=hS.base
 clear hS hE hxr hxl hsay hnum hbr hvl hrc
 obtain ⟨x0,x1,x2⟩:=HSAY.out w (Below.refl _ _)
 have x2c:=x2 col hc
 clear x2
 go_enter Tryz.func72,Tryz.ntmps72
 go_wp2_with (refine wp_mkn el_mrat rfl _ _ rfl w.heap.size _ .i64 .i64 _ _ N rfl rfl rfl rfl (by omega) (by unfold maxLen;omega) (Nat.le_refl _) rfl ?_;intro X0 wA hown0 hbA)
 obtain ⟨gx,e,hgx1,_,_,_⟩:=hown0.at_ (by omega)
 subst e
 have HGX:=Lib.hid hgx1
 have HST:=Lib.hid (show ∃ xs:List Str,OwnS wA w.heap.size 29 (some ⟨gx,0,none⟩) N N (strs xs)∧TxL N (fun x s=>x<0→s=quoQS (cellM E row x) (cellM E row col)) xs from ⟨List.replicate N [],by rw [← strs_rep];exact hown0,by simp,fun x _ h=>absurd h (Nat.not_lt_zero _)⟩)
 clear hown0 hgx1 x0 x1 x2c
 go_loopw [8] (fun i wr=>∃ (j:Nat) (xs:List Str),j≤N∧i=.int .i64 j∧OwnS wr w.heap.size 29 (some ⟨gx,0,none⟩) N N (strs xs)∧TxL N (fun x s=>x<j→s=quoQS (cellM E row x) (cellM E row col)) xs∧Below w.heap.size w wr) (fun i _=>N - (intOf i).toNat)
 case atStart =>
  obtain ⟨xs,h1,h2⟩:=HST.out
  exact ⟨0,xs,Nat.zero_le _,rfl,h1,h2,hbA⟩
 case round =>
  clear HST hbA
  obtain ⟨j,xs,hj,rfl,hown,htx,hb⟩:=hrel
  have HOW:=Lib.hid hown
  have HTX:=Lib.hid htx
  have HBO:=Lib.hid hb
  obtain ⟨x0,x1,x2⟩:=HSAY.out wr hb
  by_cases hlj:j<N
  ·obtain ⟨g1,e,_,hgw,hgc,hgf⟩:=hown.at_ (by omega)
   obtain rfl:gx=g1:=by injection e with e;injection e with e _ _
   have d0:=hgc j hlj
   rw [strs_get _ _ (by rw [htx.1];exact hlj)] at d0
   have d1:=hgf j
   have x2j:=x2 j hlj
   have HQ:=Lib.hid (fun (p:Value) (w':World)=>rxover_any p (cellM E row j) (cellM E row col) w' (by have:=frx_len (hO.mat.cell hr hlj);omega) (by have:=frx_len (hO.mat.cell hr hc);omega) (hO.quo j hlj).1)
   have HN2:=Lib.hid (show TxL N (fun x s=>x<j+1→s=quoQS (cellM E row x) (cellM E row col)) (xs.set j (quoQS (cellM E row j) (cellM E row col))) from htx.set (fun _=>rfl) (fun x _ hne u h hx=>h (by omega)))
   clear hgc hgf hown htx hb x2
   generalize xs.getD j []=u0 at *
   generalize quoQS (cellM E row j) (cellM E row col)=y at *
   go_wp2_with fail
   refine (HQ.out _ _).mono ?_
   rintro e w2 ⟨rfl,hb2⟩
   have e0:=(hb2.cell (p:=⟨gx,j,none⟩) hgw).trans d0
   have e1:=(hb2.frozen (p:=⟨gx,j,none⟩) hgw).trans d1
   have hown2:=(HOW.out.below hb2).stored j (.string (B y))
   have hb3:=(HBO.out.trans (hb2.mono HBO.out.size)).setCell HGX.out (.string (B y)) (p:=⟨gx,j,none⟩)
   clear d0 d1 x0 x1 x2j
   go_wp2_with fail
   go_roundw
   case rel=>exact ⟨j+1,_,by omega,by go_num,by rw [← strs_set];exact hown2,HN2.out,hb3⟩
   case measure=>simp [intOf];omega
  ·have hjn:j=N:=by omega
   have hjx:¬ (j:Int)<(N:Int):=by omega
   have hfx:xs=scaleR (E.getD row []) (cellM E row col):=txl_ext (htx.imp fun x hx s h=>by rw [hO.first_get hx];exact h (by omega)) hO.firstlen
   have HFI:=Lib.hid (show OwnS wr w.heap.size 29 (some ⟨gx,0,none⟩) N N (strs (scaleR (E.getD row []) (cellM E row col))) by rw [← hfx];exact hown)
   clear hjn hfx htx hown HTX HOW hj hlj x2
   go_wp2_with fail
   clear x0 x1
   obtain ⟨w1,hw1⟩:∃ w1,w1=wr:=⟨wr,rfl⟩
   subst hw1
   have HS1:=Lib.hid (HS.out.below hb)
   have HR1:=Lib.hid (rowK_own HFI.out hO.firstlen)
   go_loopw [9,10,11,12] (fun i _ _ _ wr=>∃ (l:Nat) (vs':List VecV),l≤E.length∧i=.int .i64 l∧rtx vs'=pvM E row col l∧SxK wr Bs H vars aux vs' bs tv∧RowK wr ⟨some ⟨gx,0,none⟩,N,scaleR (E.getD row []) (cellM E row col)⟩∧BlN Bs w wr) (fun i _ _ _ _=>E.length - (intOf i).toNat)
   case atStart=>exact ⟨0,vs,Nat.zero_le _,rfl,by rw [pv_zero];exact HE.out,HS1.out,HR1.out,BlN.of hb (by omega)⟩
   case round =>
    clear HS1 HR1 HFI HBO hb hjx
    obtain ⟨l,vs2,hl,rfl,hrt,hS2,hR2,hb2⟩:=hrel
    have HRT:=Lib.hid hrt
    have HS2:=Lib.hid hS2
    have HR2:=Lib.hid hR2
    have HB2:=Lib.hid hb2
    have hv2:vs2.length=E.length:=by rw [← rtx_length,hrt,pv_len]
    have hkt2:=hS2.lt
    obtain ⟨gA2,hgA2',hgB1,hgB2,hsay2⟩:=hS2.say (by omega)
    have hcapA2:=hS2.part.outer.cap
    unfold maxLen at hcapA2
    by_cases hlt:l<E.length
    ·have hlv:l<vs2.length:=by omega
     have hxs:vs2[l].xs=E.getD l []:=by rw [← rtx_get hlv,hrt,pv_row hO hlt,if_neg (fun h=>Nat.lt_irrefl _ h.1)]
     have hxl:vs2[l].xs.length=N:=by rw [hxs];exact hO.rowlen hlt
     obtain ⟨bl,ol,hbl2,hbl3,hnum2⟩:=hS2.num (j:=0) hlv (by omega)
     have hcapL:=(hS2.part.rows _ (List.getElem_mem hlv)).cap
     rw [hxl] at hcapL
     unfold maxLen at hcapL
     have HSY:=Lib.hid (fun w' (hb:Below wr.heap.size wr w')=>(show w'.cell? ⟨H.kt,0,none⟩=some (.slice (some ⟨gA2,0,none⟩) E.length H.c)∧w'.cell? ⟨gA2,l,none⟩=some (.slice (some ⟨bl,ol,none⟩) N vs2[l].c)∧(∀ j,j<N→w'.cell? ⟨bl,ol+j,none⟩=some (.string (B (cellM E l j))))∧w'.frozen? ⟨gA2,l,none⟩=false from by
      obtain ⟨h1,_,h2,h5⟩:=hsay2 w' hb
      have h3:=h2 l hlv
      rw [hbl2,hxl] at h3
      rw [hv2] at h1
      refine ⟨h1,h3,fun j hj=>?_,h5 l⟩
      have h4:=hnum2 w' hb j (by rw [hxl];exact hj)
      rw [hxs] at h4
      exact h4))
     generalize vs2[l].c=cl at *
     obtain ⟨x0,x1,x2,_⟩:=HSY.out wr (Below.refl _ _)
     have x2c:=x2 col hc
     clear x2 hsay2 hnum2 hxs hxl hbl2 hrt hS2 hR2 hb2
     by_cases hlr:l=row
     ·have HSK:=Lib.hid (pv_skip hO hlt (.inl hlr))
      have hlr':((l:Int) == (row:Int))=true:=by rw [hlr];simp
      clear hlr
      generalize cellM E l col=f at *
      go_wp2_with fail
      go_roundw
      case rel=>exact ⟨l+1,vs2,by omega,by go_num,by rw [HSK.out];exact HRT.out,HS2.out,HR2.out,HB2.out⟩
      case measure=>simp [intOf];omega
     ·have hlr':((l:Int) == (row:Int))=false:=by simp;omega
      by_cases hf0:cellM E l col=[48]
      ·have HSK:=Lib.hid (pv_skip hO hlt (.inr hf0))
       rw [hf0] at x2c
       clear hf0 hlr
       go_wp2_with fail
       go_roundw
       case rel=>exact ⟨l+1,vs2,by omega,by go_num,by rw [HSK.out];exact HRT.out,HS2.out,HR2.out,HB2.out⟩
       case measure=>simp [intOf];omega
      ·have hf0':(cellM E l col == [48])=false:=by simpa using hf0
       have HNX:=Lib.hid (pv_next hO hlt hlr)
       have HLES:=Lib.hid (fun j (hj:j<N)=>hO.less l hlt hlr j hj)
       have hlenl:(E.getD l []).length=N:=hO.rowlen hlt
       have HLL:=Lib.hid hlenl
       have hsz2:Bs≤wr.heap.size:=by have:=HS2.out.base;omega
       clear hf0 hlr hlenl
       generalize hff:cellM E l col=f at *
       have HFF:=Lib.hid hff
       clear hff
       go_wp2_with (refine wp_mkn el_mrat rfl _ _ rfl wr.heap.size _ .i64 .i64 _ _ N rfl rfl rfl rfl (by omega) (by unfold maxLen;omega) (Nat.le_refl _) rfl ?_;intro X1 wD hown1 hbD)
       obtain ⟨wo,hwo⟩:∃ wo,wo=wr:=⟨wr,rfl⟩
       subst hwo
       obtain ⟨gy,e,hgy1,_,_,_⟩:=hown1.at_ (by omega)
       subst e
       have HGY:=Lib.hid hgy1
       have HST:=Lib.hid (show ∃ ys:List Str,OwnS wD wo.heap.size 29 (some ⟨gy,0,none⟩) N N (strs ys)∧TxL N (fun x s=>x<0→s=subQS (cellM E l x) (mulQS f (quoQS (cellM E row x) (cellM E row col)))) ys from ⟨List.replicate N [],by rw [← strs_rep];exact hown1,by simp,fun x _ h=>absurd h (Nat.not_lt_zero _)⟩)
       obtain ⟨bn,on,hbn,hbn2,hbn3⟩:=HR2.out.at_ (by show 0<(scaleR _ _).length;rw [hO.firstlen];omega)
       have HNC:=Lib.hid (fun w' (hb:Below wo.heap.size wo w') j (hj:j<N)=>(show w'.cell? ⟨gx,0+j,none⟩=some (.string (B (quoQS (cellM E row j) (cellM E row col)))) from by
        injection hbn with hbn
        injection hbn with e1 e2 _
        have h1:=(hb.cell (p:=⟨bn,on+j,none⟩) hbn2).trans (hbn3 j (by show j<(scaleR _ _).length;rw [hO.firstlen];exact hj))
        rw [← e1,← e2] at h1
        have hg:=hO.first_get hj
        rw [List.getD_eq_getElem?_getD,List.getElem?_eq_getElem (by rw [hO.firstlen];exact hj)] at hg
        rw [h1]
        exact congrArg (fun s=>some (Value.string (B s))) hg))
       clear hown1 hgy1 x0 x1 x2c hbn hbn2 hbn3
       go_loopw [12] (fun i wr=>∃ (j:Nat) (ys:List Str),j≤N∧i=.int .i64 j∧OwnS wr wo.heap.size 29 (some ⟨gy,0,none⟩) N N (strs ys)∧TxL N (fun x s=>x<j→s=subQS (cellM E l x) (mulQS f (quoQS (cellM E row x) (cellM E row col)))) ys∧Below wo.heap.size wo wr) (fun i _=>N - (intOf i).toNat)
       case atStart =>
        obtain ⟨ys,h1,h2⟩:=HST.out
        exact ⟨0,ys,Nat.zero_le _,rfl,h1,h2,hbD⟩
       case round =>
        clear HST hbD
        obtain ⟨j,ys,hj,rfl,hown,htx,hb⟩:=hrel
        have HOW:=Lib.hid hown
        have HTX:=Lib.hid htx
        have HBO:=Lib.hid hb
        by_cases hlj:j<N
        ·obtain ⟨g1,e,_,hgw,hgc,hgf⟩:=hown.at_ (by omega)
         obtain rfl:gy=g1:=by injection e with e;injection e with e _ _
         have d0:=hgc j hlj
         rw [strs_get _ _ (by rw [htx.1];exact hlj)] at d0
         have d1:=hgf j
         obtain ⟨x0,x1,x2,_⟩:=HSY.out wr hb
         have x2j:=x2 j hlj
         have n2j:=HNC.out wr hb j hlj
         obtain ⟨q1,q2,q3,q4⟩:=HLES.out j hlj
         have HLS:=Lib.hid (fun (p:Value) (w':World)=>rxless_any p (cellM E l j) f (quoQS (cellM E row j) (cellM E row col)) w' (by have:=frx_len (hO.mat.cell hlt hlj);omega) (by rw [← HFF.out];have:=frx_len (hO.mat.cell hlt hc);omega) (by have:=frx_len (hO.quo j hlj).2;omega) q1 q3)
         have HN2:=Lib.hid (show TxL N (fun x s=>x<j+1→s=subQS (cellM E l x) (mulQS f (quoQS (cellM E row x) (cellM E row col)))) (ys.set j (subQS (cellM E l j) (mulQS f (quoQS (cellM E row j) (cellM E row col))))) from htx.set (fun _=>rfl) (fun x _ hne u h hx=>h (by omega)))
         clear hgc hgf hown htx x2 q1 q2 q3 q4
         generalize ys.getD j []=u0 at *
         generalize quoQS (cellM E row j) (cellM E row col)=qj at *
         generalize cellM E l j=aj at *
         generalize subQS aj (mulQS f qj)=y at *
         have hgw':gy<wr.drew.heap.size:=hgw
         have HL:=Lib.hid (fun (w2:World) (hb2:Below wr.drew.heap.size wr.drew w2)=>show w2.cell? ⟨gy,j,none⟩=some (.string (B u0))∧w2.frozen? ⟨gy,j,none⟩=false from ⟨(hb2.cell (p:=⟨gy,j,none⟩) hgw').trans d0,(hb2.frozen (p:=⟨gy,j,none⟩) hgw').trans d1⟩)
         have HBD:=Lib.hid (below_drew hb)
         have HOD:=Lib.hid (HOW.out.below (below_drew (Below.refl _ _)))
         rw [Nat.zero_add] at n2j
         clear hb
         go_wp2_with fail
         go_region_with (go_at_call 70;refine (HLS.out _ _).mono ?_;rintro e w2 ⟨rfl,hb2⟩;obtain ⟨l0,l1⟩:=HL.out w2 hb2)
         all_goals
          have hown2:=(HOD.out.below hb2).stored j (.string (B y))
          have hb3:=(HBD.out.trans (hb2.mono HBD.out.size)).setCell HGY.out (.string (B y)) (p:=⟨gy,j,none⟩)
          go_wp2_with fail
          go_roundw
          case rel=>exact ⟨j+1,_,by omega,by go_num,by rw [← strs_set];exact hown2,HN2.out,hb3⟩
          case measure=>simp [intOf];omega
        ·have hjn:j=N:=by omega
         have hjx:¬ (j:Int)<(N:Int):=by omega
         have hyl:(lessR (E.getD l []) (scaleR (E.getD row []) (cellM E row col)) f).length=N:=by unfold lessR;rw [List.length_zipWith,HLL.out,hO.firstlen];omega
         have hyx:ys=lessR (E.getD l []) (scaleR (E.getD row []) (cellM E row col)) f:=txl_ext (htx.imp fun x hx s h=>by
          rw [h (by omega)]
          unfold lessR
          rw [List.getD_eq_getElem?_getD,List.getElem?_zipWith,List.getElem?_eq_getElem (by rw [HLL.out];exact hx),List.getElem?_eq_getElem (by rw [hO.firstlen];exact hx)]
          have hg:=hO.first_get hx
          rw [List.getD_eq_getElem?_getD,List.getElem?_eq_getElem (by rw [hO.firstlen];exact hx)] at hg
          have hg2:cellM E l x=(E.getD l [])[x]'(by rw [HLL.out];exact hx):=by unfold cellM;rw [List.getD_eq_getElem?_getD,List.getElem?_eq_getElem (by rw [HLL.out];exact hx)];rfl
          rw [hg2,← hg];rfl) hyl
         have HLI:=Lib.hid (rowK_own hown htx.1)
         obtain ⟨x0,x1,x2,x3⟩:=HSY.out wr hb
         have hS3:=HS2.out.below hb
         have ho3:=hS3.part.outer
         rw [hgA2'] at ho3
         obtain ⟨_,_,cur,htg⟩:=ho3.typ
         have HS3:=Lib.hid (hS3.put (i:=l) hlv hgA2' HLI.out)
         have HR3:=Lib.hid ((HR2.out.below hb).set (i:=l) (v:=hdrK ⟨some ⟨gy,0,none⟩,N,ys⟩) htg (by decide))
         have HB3:=Lib.hid (show BlN Bs w (wr.setCell ⟨gA2,l,none⟩ (hdrK ⟨some ⟨gy,0,none⟩,N,ys⟩)) from (HB2.out.snoc hb hsz2).set hgB1 htg (by decide))
         have HRT3:=Lib.hid (show rtx (vs2.set l ⟨some ⟨gy,0,none⟩,N,ys⟩)=pvM E row col (l+1) by rw [rtx_set,HRT.out,hyx];exact HNX.out)
         have hyl2:(ys.length:Nat)=N:=htx.1
         unfold hdrK at HS3 HR3 HB3
         simp only [hyl2] at HS3 HR3 HB3
         clear hjn hyx hyl x2 hS3 ho3 htg hown htx HTX HOW hj hlj
         go_wp2_with fail
         go_roundw
         case rel=>exact ⟨l+1,_,by omega,by go_num,HRT3.out,HS3.out,HR3.out,HB3.out⟩
         case measure=>simp [intOf];omega
    ·have hle:l=E.length:=by omega
     have hlx:¬ (l:Int)<(E.length:Int):=by omega
     have HFIN:=Lib.hid (show (rtx vs2).set row (scaleR (E.getD row []) (cellM E row col))=clearM E row col by rw [hrt,hle];exact pv_end hO)
     have hrv2:row<vs2.length:=by omega
     obtain ⟨x0,_,x1,x2⟩:=hsay2 wr (Below.refl _ _)
     have x1r:=x1 row hrv2
     have x2r:=x2 row
     rw [hv2] at x0
     have ho3:=hS2.part.outer
     rw [hgA2'] at ho3
     have hS4:=hS2.put (i:=row) hrv2 hgA2' hR2
     obtain ⟨gb,hgb,hgb1,hgb2,hgb3,hgb4⟩:=hS4.part.bas.at_ (by omega)
     have hcapb:=hS4.part.bas.cap
     unfold maxLen at hcapb
     have hb3:=hS4.cell 3
     have hb4:=hgb3 row hrb
     rw [nums_get _ _ hrb] at hb4
     have hb5:=hgb4 row
     rw [hgb] at hb3
     have HS5:=Lib.hid (hS4.basis (i:=row) (x:=col) hgb)
     obtain ⟨_,_,cur3,htg3⟩:=ho3.typ
     have hob:=hS4.part.bas
     rw [hgb] at hob
     obtain ⟨_,_,curb,htb⟩:=hob.typ
     have HB4:=Lib.hid ((hb2.set (i:=row) (v:=hdrK ⟨some ⟨gx,0,none⟩,N,scaleR (E.getD row []) (cellM E row col)⟩) hgB1 htg3 (by decide)).set (i:=row) (v:=.int .i64 (col:Int)) hgb1 htb (by decide))
     have hfl:=hO.firstlen
     unfold hdrK at hb3 hb4 hb5 HS5 HB4
     simp only [hfl] at hb3 hb4 hb5 HS5 HB4
     clear hle x1 x2 ho3 hS4 hob htb htg3 hgb2 hgb3 hgb4 hS2 hR2 hrt hsay2 hb2 HS2 HR2 HB2 HRT hfl
     go_wp2_with fail
     first | go_end0 | refine bodyPost_ret (results_none rfl _ _ _) rfl ?_
     exact ⟨rfl,⟨_,by rw [rtx_set];exact HFIN.out,HS5.out⟩,HB4.out⟩
end Go.Proofs.YtmppmdmekomjbaaGreatDoor

/- linear: Value, Left, holds, Fits. -/
import Derived.Test.YtmppmdmekomjbaaGreatDoorRTimes
import Derived.Test.YtmppmdmekomjbaaGreatDoorG15
import Derived.Deep.RegionHeld3
import Derived.Deep.QuietTactic
import Derived.BigQuiet
import Derived.Test.YtmppmdmekomjbaaGreatDoorG3
namespace Go.Proofs.YtmppmdmekomjbaaGreatDoor
open Go.RowKit Num
set_option linter.unusedVariables false
attribute [local go_sem] B_size B_get B_toList B_mk B_extract B_append
attribute [local go_sem high] run_max2
def linOf (cost:List Int) (rs:List RowV):LinL:=⟨cost,rs.map (·.L)⟩
abbrev linV (A:Option Addr) (n ca:Nat) (R:Option Addr) (m cr:Nat):Value:=.agg #[.slice A n ca,.slice R m cr]
abbrev linO (A:Option Addr) (n ca:Nat) (R:Option Addr) (m cr:Nat):Obj:=.cells #[.slice A n ca,.slice R m cr] 25
theorem lin_rows (cost:List Int) (rs:List RowV):(linOf cost rs).rows.length=rs.length:=by unfold linOf;simp
theorem lin_rowAt (cost:List Int) (rs:List RowV) (i:Nat) (h:i<rs.length):Num.rowAt (linOf cost rs) i=rs[i].L:=by
 rw [rowAt_eq (by rw [lin_rows];exact h)];unfold linOf;simp
structure LinAt (w:World) (cost:List Int) (rs:List RowV) (A:Option Addr) (ca:Nat) (R:Option Addr) (cr:Nat):Prop where
 cells:Cells w A (ints cost)
 rows:RowsAt w R rs
 fit:∀ n ∈ cost,fits n
 ok:∀ r ∈ rs,r.ok
 la:cost.length≤ca∧ca≤maxLen
 lr:rs.length≤cr∧cr≤maxLen
theorem LinAt.below {w w':World} {cost:List Int} {rs:List RowV} {A R:Option Addr} {ca cr:Nat} (h:LinAt w cost rs A ca R cr) (hb:Below w.heap.size w w'):LinAt w' cost rs A ca R cr :=
 ⟨h.cells.below hb,h.rows.below hb,h.fit,h.ok,h.la,h.lr⟩
structure RatsAt (w:World) (xs:List Str) (X:Option Addr) (cx:Nat):Prop where
 cells:Cells w X (strs xs)
 len:∀ x ∈ xs,x.length≤100000
 lx:xs.length≤cx∧cx≤maxLen
theorem RatsAt.below {w w':World} {xs:List Str} {X:Option Addr} {cx:Nat} (h:RatsAt w xs X cx) (hb:Below w.heap.size w w'):RatsAt w' xs X cx:=⟨h.cells.below hb,h.len,h.lx⟩
theorem lval_any (cost:List Int) (rs:List RowV) (A:Option Addr) (ca:Nat) (R:Option Addr) (cr:Nat) (xs:List Str) (X:Option Addr) (cx:Nat) (w:World) (hp:LinAt w cost rs A ca R cr) (hx:RatsAt w xs X cx) (he:Env w) :
  Calls Tryz.prog 32 #[linV A cost.length ca R rs.length cr,.slice X xs.length cx] w fun e w'=>e=.returned (.tuple #[.string (B (timesQ cost xs).1),.int .i64 (timesQ cost xs).2])∧Below w.heap.size w w':=by
 have hla:=hp.la
 have hlx:=hx.lx
 have b0:=new_below w (linO A cost.length ca R rs.length cr)
 have HT:=Lib.hid (qtimes_any cost xs A X ca cx _ (hp.cells.below b0) (hx.cells.below b0) (by omega) (by omega) hp.fit hx.len (he.below b0))
 generalize timesQ cost xs=v at *
 clear hp hx
 go_enter Tryz.func32,Tryz.ntmps32
 simp only [B_mk]
 go_wp2_with fail
 refine HT.out.mono ?_
 rintro e w1 ⟨rfl,hb1⟩
 go_wp2_with fail
 go_ret2
 exact ⟨rfl,b0.trans (hb1.mono b0.size)⟩
def leftQ (p:LinL) (i:Int) (xs:List Str):Str × Int:=if 0≤i∧i<p.rows.length then timesQ (Num.rowAt p i.toNat).coef xs else ([],7)
theorem RowsAt.at {w:World} {A:Option Addr} {rs:List RowV} (h:RowsAt w A rs) (h0:0<rs.length):∃ b off,A=some ⟨b,off,none⟩∧b<w.heap.size∧∀ i (hi:i<rs.length),
  w.cell? ⟨b,off+i*3,none⟩=some (.slice rs[i].A rs[i].L.coef.length rs[i].c)∧w.cell? ⟨b,off+i*3+1,none⟩=some (.int .i64 rs[i].L.kind)∧w.cell? ⟨b,off+i*3+2,none⟩=some (.int .i64 rs[i].L.right):=h.1 h0
set_option maxRecDepth 100000 in
theorem lleft_any (cost:List Int) (rs:List RowV) (A:Option Addr) (ca:Nat) (R:Option Addr) (cr:Nat) (i:Int) (xs:List Str) (X:Option Addr) (cx:Nat) (w:World) (hi:fits i) (hp:LinAt w cost rs A ca R cr) (hx:RatsAt w xs X cx) (he:Env w) :
  Calls Tryz.prog 89 #[linV A cost.length ca R rs.length cr,.int .i64 i,.slice X xs.length cx] w fun e w'=>e=.returned (.tuple #[.string (B (leftQ (linOf cost rs) i xs).1),.int .i64 (leftQ (linOf cost rs) i xs).2])∧Below w.heap.size w w':=by
 have hlr:=hp.lr
 have hlx:=hx.lx
 have b0:=new_below w (linO A cost.length ca R rs.length cr)
 by_cases h1:i<0
 ·rw [show leftQ (linOf cost rs) i xs=([],7) from if_neg (fun h=>by omega)]
  clear hp hx
  go_enter Tryz.func89,Tryz.ntmps89
  simp only [B_mk]
  go_wp2_with fail
  go_ret2
  exact ⟨rfl,b0⟩
 by_cases h2:i<(rs.length:Int)
 ·obtain ⟨k,rfl⟩:∃ k:Nat,i=(k:Int):=⟨i.toNat,by omega⟩
  have hk:k<rs.length:=by omega
  have HV:=Lib.hid (show leftQ (linOf cost rs) (k:Int) xs=timesQ rs[k].L.coef xs by
   unfold leftQ;rw [if_pos ⟨by omega,by rw [lin_rows];omega⟩,Int.toNat_natCast,lin_rowAt _ _ _ hk])
  rw [HV.out]
  obtain ⟨b,off,rfl,hbl,hc⟩:=hp.rows.at (by omega)
  have hc0:=(b0.cell (p:=⟨b,off+k*3,none⟩) hbl).trans (hc k hk).1
  have hok:=hp.ok rs[k] (List.getElem_mem hk)
  have hcl:=(hp.rows.2 rs[k] (List.getElem_mem hk)).below b0
  have hrl:rs[k].L.coef.length≤maxLen:=Nat.le_trans hok.1 hok.2.1
  have HT:=Lib.hid (qtimes_any rs[k].L.coef xs rs[k].A X rs[k].c cx _ hcl (hx.cells.below b0) hrl (by omega) hok.2.2.1 hx.len (he.below b0))
  generalize timesQ rs[k].L.coef xs=v at *
  generalize rs[k]=r at *
  clear hp hx hc hcl hok HV
  go_enter Tryz.func89,Tryz.ntmps89
  simp only [B_mk]
  go_wp2_with fail
  refine HT.out.mono ?_
  rintro e w1 ⟨rfl,hb1⟩
  go_wp2_with fail
  go_ret2
  exact ⟨rfl,b0.trans (hb1.mono b0.size)⟩
 ·rw [show leftQ (linOf cost rs) i xs=([],7) from if_neg (fun h=>by rw [lin_rows] at h;omega)]
  clear hp hx
  go_enter Tryz.func89,Tryz.ntmps89
  simp only [B_mk]
  go_wp2_with fail
  go_ret2
  exact ⟨rfl,b0⟩
theorem lholds_any (k:Int) (a b:Str) (w:World) (ha:a.length≤1000000) (hb:b.length≤1000000) (he:Env w) :
  Calls Tryz.prog 90 #[.int .i64 k,.string (B a),.string (B b)] w fun e w'=>e=.returned (.bool (holdsB k (cmpQ a b)))∧Below w.heap.size w w':=by
 have HC:=Lib.hid (qcmp_any a b w ha hb he)
 generalize cmpQ a b=c at *
 by_cases h1:k=1
 ·subst h1
  rw [show holdsB 1 c=decide (c≤0) by unfold holdsB;rw [if_pos rfl]]
  go_enter Tryz.func90,Tryz.ntmps90
  go_wp2_with fail
  refine HC.out.mono ?_
  rintro e w1 ⟨rfl,hb1⟩
  go_wp2_with fail
  go_ret
  exact ⟨rfl,hb1⟩
 ·by_cases h3:k=3
  ·subst h3
   rw [show holdsB 3 c=decide (0≤c) by unfold holdsB;rw [if_neg (by decide),if_pos rfl]]
   go_enter Tryz.func90,Tryz.ntmps90
   go_wp2_with fail
   refine HC.out.mono ?_
   rintro e w1 ⟨rfl,hb1⟩
   go_wp2_with fail
   go_ret
   exact ⟨rfl,hb1⟩
  ·have h1':(k == 1)=false:=by simpa using h1
   have h3':(k == 3)=false:=by simpa using h3
   have HV:=Lib.hid (show holdsB k c=(c == 0) by unfold holdsB;rw [if_neg h1,if_neg h3];by_cases h:c=0 <;> simp [h])
   clear h1 h3
   go_enter Tryz.func90,Tryz.ntmps90
   go_wp2_with fail
   refine HC.out.mono ?_
   rintro e w1 ⟨rfl,hb1⟩
   go_wp2_with fail
   go_ret
   exact ⟨ret_bool HV.out.symm,hb1⟩
theorem all_take {α:Type} {l:List α} {f:α→Bool} {k:Nat} (h:k<l.length) (h1:(l.take k).all f=true) (h2:f l[k]=true):(l.take (k+1)).all f=true:=by
 rw [List.take_succ_eq_append_getElem h,List.all_append,h1];simp [h2]
theorem all_bad {α:Type} {l:List α} {f:α→Bool} {k:Nat} (h:k<l.length) (h2:f l[k]=false):l.all f=false:=by
 rw [List.all_eq_false];exact ⟨l[k],List.getElem_mem h,by simp [h2]⟩
theorem fits_rows (cost:List Int) (rs:List RowV) (xs:List Str):(linOf cost rs).rows.all (fun r=>rowB r xs)=rs.all (fun r=>rowB r.L xs):=by
 unfold linOf;rw [List.all_map];rfl
theorem lin_cells {w w':World} {u v:Value} {t:TypeId} (hb:Below (w.alloc (.cells #[u,v] t)).heap.size (w.alloc (.cells #[u,v] t)) w') :
  w'.cell? ⟨w.heap.size,0,none⟩=some u∧w'.cell? ⟨w.heap.size,1,none⟩=some v∧w.heap.size<w'.heap.size:=by
 have h:=row_on row_new hb
 refine ⟨?_,?_,?_⟩
 ·rw [cell_of_row w' w.heap.size 0 _ _ _ h];rfl
 ·rw [cell_of_row w' w.heap.size 1 _ _ _ h];rfl
 ·exact Nat.lt_of_lt_of_le (by simp) hb.size
theorem new_lt (w:World) (o:Obj):w.heap.size<(w.alloc o).heap.size:=by simp
theorem fold_len (ns:List Int):∀ (xs:List Str) (s:Str),s.length≤8194→(foldT s ns xs).1.length≤8194:=by
 induction ns with
 | nil=>intro xs s h;unfold foldT;exact h
 | cons n ns ih =>
  intro xs s h
  cases xs with
  | nil=>unfold foldT;exact h
  | cons x xs =>
   unfold foldT
   split
   ·split
    ·exact ih xs _ (addQ_len _ _)
    ·simp
   ·simp
theorem times_len (ns:List Int) (xs:List Str):(timesQ ns xs).1.length≤8194:=by
 unfold timesQ
 split
 ·split
  ·exact fold_len ns xs _ (by decide)
  ·simp
 ·simp
set_option maxHeartbeats 2000000 in
set_option maxRecDepth 100000 in
theorem lfits_any (cost:List Int) (rs:List RowV) (A:Option Addr) (ca:Nat) (R:Option Addr) (cr:Nat) (xs:List Str) (X:Option Addr) (cx:Nat) (w:World) (hp:LinAt w cost rs A ca R cr) (hx:RatsAt w xs X cx) (he:Env w) :
  Calls Tryz.prog 49 #[linV A cost.length ca R rs.length cr,.slice X xs.length cx] w fun e w'=>e=.returned (.bool (fitsB (linOf cost rs) xs))∧Below w.heap.size w w':=by
 have hla:=hp.la
 have hlr:=hp.lr
 have hlx:=hx.lx
 unfold maxLen at hla hlr hlx
 have b0:=new_below w (linO A cost.length ca R rs.length cr)
 have HP:=Lib.hid hp
 have HX:=Lib.hid hx
 clear hp hx
 by_cases heq:xs.length=cost.length
 ·have HE:=Lib.hid heq
  have hq:((xs.length:Int) != (cost.length:Int))=false:=by rw [heq];simp
  clear heq
  have hbW:∀ wr,Below (w.alloc (linO A cost.length ca R rs.length cr)).heap.size (w.alloc (linO A cost.length ca R rs.length cr)) wr→Below w.heap.size w wr:=fun wr h=>b0.trans (h.mono b0.size)
  have HBW:=Lib.hid hbW
  clear hbW
  go_enter Tryz.func49,Tryz.ntmps49
  go_wp2_with fail
  go_loopw [4,6,19] (fun _ _ i wr=>∃ k:Nat,k≤xs.length∧i=.int .i64 k∧(xs.take k).all posB=true∧Below (w.alloc (linO A cost.length ca R rs.length cr)).heap.size (w.alloc (linO A cost.length ca R rs.length cr)) wr) (fun _ _ i _=>xs.length - (intOf i).toNat)
  case atStart=>exact ⟨0,Nat.zero_le _,rfl,rfl,Below.refl _ _⟩
  case round =>
   obtain ⟨k,hk,rfl,hall,hbel0⟩:=hrel
   have HALL:=Lib.hid hall
   clear hall
   have hbel:=HBW.out wr hbel0
   have hlin:=lin_cells hbel0
   by_cases hlt:k<xs.length
   ·obtain ⟨bA,oA,rfl,hbA,hcA⟩:=HX.out.cells.at (by rw [strs_length];omega)
    have hld:wr.cell? ⟨bA,oA+k,none⟩=some (.string (B xs[k])):=by
     rw [hbel.cell (p:=⟨bA,oA+k,none⟩) hbA,hcA k (by rw [strs_length];exact hlt)];simp [strs]
    clear hcA hlin
    have hxl:=HX.out.len xs[k] (List.getElem_mem hlt)
    have HR:=Lib.hid (fun (w:World) (he:Env w)=>rq_any xs[k] w (by omega) he)
    have HS:=Lib.hid (fun (w:World) (he:Env w)=>qsign_any xs[k] w (by omega) he)
    have HT:=Lib.hid (fun h=>all_take (f:=posB) hlt HALL.out h)
    have HB:=Lib.hid (fun h=>all_bad (f:=posB) hlt h)
    generalize xs[k]=x at *
    cases hr:rightQ x
    ·rw [hr] at HR
     have HV:=Lib.hid (show fitsB (linOf cost rs) xs=false by unfold fitsB;rw [HB.out (by unfold posB;rw [hr];rfl)];simp)
     go_wp2_with fail
     refine (HR.out wr (he.below hbel)).mono ?_
     rintro e w1 ⟨rfl,hb1⟩
     go_wp2_with fail
     go_ret
     exact ⟨ret_bool HV.out.symm,hbel.trans (hb1.mono hbel.size)⟩
    ·rw [hr] at HR
     by_cases hs:signQ x<0
     ·have HV:=Lib.hid (show fitsB (linOf cost rs) xs=false by unfold fitsB;rw [HB.out (by unfold posB;rw [hr];simp;omega)];simp)
      generalize signQ x=sg at *
      go_wp2_with fail
      refine (HR.out wr (he.below hbel)).mono ?_
      rintro e w1 ⟨rfl,hb1⟩
      have a1:=hbel.trans (hb1.mono hbel.size)
      go_wp2_with fail
      refine (HS.out w1 (he.below a1)).mono ?_
      rintro e w2 ⟨rfl,hb2⟩
      go_wp2_with fail
      go_ret
      exact ⟨ret_bool HV.out.symm,a1.trans (hb2.mono a1.size)⟩
     ·have HV:=Lib.hid (HT.out (by unfold posB;rw [hr];simp;omega))
      generalize signQ x=sg at *
      go_wp2_with fail
      refine (HR.out wr (he.below hbel)).mono ?_
      rintro e w1 ⟨rfl,hb1⟩
      have a1:=hbel.trans (hb1.mono hbel.size)
      go_wp2_with fail
      refine (HS.out w1 (he.below a1)).mono ?_
      rintro e w2 ⟨rfl,hb2⟩
      go_wp2_with fail
      go_roundw
      case rel=>exact ⟨k+1,by omega,by go_num,HV.out,(hbel0.trans (hb1.mono hbel0.size)).trans (hb2.mono (Nat.le_trans hbel0.size hb1.size))⟩
      case measure=>simp [intOf];omega
   ·have hkx:k=xs.length:=by omega
    have HPOS:=Lib.hid (show xs.all posB=true by have:=HALL.out;rwa [hkx,List.take_length] at this)
    have HV:=Lib.hid (show fitsB (linOf cost rs) xs=rs.all (fun r=>rowB r.L xs) by unfold fitsB;rw [HPOS.out,fits_rows,show decide (xs.length=(linOf cost rs).cost.length)=true by simp [linOf,HE.out]];simp)
    obtain ⟨d0,d1,d2⟩:=hlin
    clear HALL hkx
    go_wp2_with fail
    clear d0 d1 d2
    go_loopw [4,7,8,9,10,35] (fun _ _ _ _ _ i wr=>∃ j:Nat,j≤rs.length∧i=.int .i64 j∧(rs.take j).all (fun r=>rowB r.L xs)=true∧Below (w.alloc (linO A cost.length ca R rs.length cr)).heap.size (w.alloc (linO A cost.length ca R rs.length cr)) wr) (fun _ _ _ _ _ i _=>rs.length - (intOf i).toNat)
    case atStart=>exact ⟨0,Nat.zero_le _,rfl,rfl,hbel0⟩
    case round =>
     clear hbel hbel0 hk hlt
     obtain ⟨j,hj,rfl,hall,hbel0⟩:=hrel
     have HALL:=Lib.hid hall
     clear hall
     have hbel:=HBW.out wr hbel0
     have hlin:=lin_cells hbel0
     by_cases hlt:j<rs.length
     ·obtain ⟨bR,oR,rfl,hbR,hcR⟩:=HP.out.rows.at (by omega)
      have hc0:=(hbel.cell (p:=⟨bR,oR+j*3,none⟩) hbR).trans (hcR j hlt).1
      have hc1:=(hbel.cell (p:=⟨bR,oR+j*3+1,none⟩) hbR).trans (hcR j hlt).2.1
      have hc2:=(hbel.cell (p:=⟨bR,oR+j*3+2,none⟩) hbR).trans (hcR j hlt).2.2
      clear hcR
      obtain ⟨d0,d1,d2⟩:=hlin
      have hRB:∀ b:Bool,rowB rs[j].L xs=b→b=rowB rs[j].L xs:=fun b h=>h.symm
      have HLV:=Lib.hid (show leftQ (linOf cost rs) (j:Int) xs=timesQ rs[j].L.coef xs by
       unfold leftQ;rw [if_pos ⟨by omega,by rw [lin_rows];omega⟩,Int.toNat_natCast,lin_rowAt _ _ _ hlt])
      have HL:=Lib.hid (fun (w:World) (hp:LinAt w cost rs A ca (some ⟨bR,oR,none⟩) cr) (hx:RatsAt w xs X cx) (he:Env w)=>lleft_any cost rs A ca (some ⟨bR,oR,none⟩) cr (j:Int) xs X cx w (by constructor <;> omega) hp hx he)
      rw [HLV.out] at HL
      have hok:=HP.out.ok rs[j] (List.getElem_mem hlt)
      have HT:=Lib.hid (fun h=>all_take (f:=fun r:RowV=>rowB r.L xs) hlt HALL.out h)
      have HB:=Lib.hid (fun h=>all_bad (f:=fun r:RowV=>rowB r.L xs) hlt h)
      have HRW:=Lib.hid (show rowB rs[j].L xs=(decide ((timesQ rs[j].L.coef xs).2=0) && holdsB rs[j].L.kind (cmpQ (timesQ rs[j].L.coef xs).1 (decI rs[j].L.right))) from rfl)
      have hvl:=times_len rs[j].L.coef xs
      generalize timesQ rs[j].L.coef xs=v at *
      obtain ⟨v1,v2⟩:=v
      have hvl1:v1.length≤8194:=hvl
      clear hvl
      generalize rs[j]=r at *
      have hfr:=hok.2.2.2.2
      have hdl:=fits_len hfr
      clear hok hRB
      have n1:=new_below wr (.cells #[.slice r.A r.L.coef.length r.c,.int .i64 r.L.kind,.int .i64 r.L.right] 45)
      have row1:=row_new (w:=wr) (o:=.cells #[.slice r.A r.L.coef.length r.c,.int .i64 r.L.kind,.int .i64 r.L.right] 45)
      have hbA:=hbel.trans (n1.mono hbel.size)
      by_cases hv:v2=0
      ·subst hv
       cases hh:holdsB r.L.kind (cmpQ v1 (decI r.L.right))
       ·have HH:=Lib.hid (fun (w:World) (he:Env w)=>lholds_any r.L.kind v1 (decI r.L.right) w (by omega) (by omega) he)
        rw [hh] at HH
        have HBB:=Lib.hid (show fitsB (linOf cost rs) xs=false by rw [HV.out,HB.out (by rw [HRW.out,hh];rfl)])
        go_wp2_with fail
        refine (HL.out _ (HP.out.below hbA) (HX.out.below hbA) (he.below hbA)).mono ?_
        rintro e w2 ⟨rfl,hb2⟩
        have hr2:=row_on row1 hb2
        have e1:w2.cell? ⟨wr.heap.size,1,none⟩=some (.int .i64 r.L.kind):=by rw [cell_of_row w2 wr.heap.size 1 _ _ _ hr2];rfl
        have e2:w2.cell? ⟨wr.heap.size,2,none⟩=some (.int .i64 r.L.right):=by rw [cell_of_row w2 wr.heap.size 2 _ _ _ hr2];rfl
        clear hr2
        go_wp2_with fail
        have hS0:Below (wr.alloc (.cells #[.slice r.A r.L.coef.length r.c,.int .i64 r.L.kind,.int .i64 r.L.right] 45)).heap.size (wr.alloc (.cells #[.slice r.A r.L.coef.length r.c,.int .i64 r.L.kind,.int .i64 r.L.right] 45)) w2.drew∧w2.drew.cell? ⟨wr.heap.size,1,none⟩=some (.int .i64 r.L.kind)∧w2.drew.cell? ⟨wr.heap.size,2,none⟩=some (.int .i64 r.L.right):=⟨below_drew hb2,e1,e2⟩
        have HO2:=Lib.hid (fun w' (hs:Below (wr.alloc (.cells #[.slice r.A r.L.coef.length r.c,.int .i64 r.L.kind,.int .i64 r.L.right] 45)).heap.size (wr.alloc (.cells #[.slice r.A r.L.coef.length r.c,.int .i64 r.L.kind,.int .i64 r.L.right] 45)) w'∧w'.cell? ⟨wr.heap.size,1,none⟩=some (.int .i64 r.L.kind)∧w'.cell? ⟨wr.heap.size,2,none⟩=some (.int .i64 r.L.right))=>qof_any r.L.right w' hfr (he.below (hbA.trans (hs.1.mono hbA.size))).1)
        have HH2:=Lib.hid (fun w' (hs:Below (wr.alloc (.cells #[.slice r.A r.L.coef.length r.c,.int .i64 r.L.kind,.int .i64 r.L.right] 45)).heap.size (wr.alloc (.cells #[.slice r.A r.L.coef.length r.c,.int .i64 r.L.kind,.int .i64 r.L.right] 45)) w'∧w'.cell? ⟨wr.heap.size,1,none⟩=some (.int .i64 r.L.kind)∧w'.cell? ⟨wr.heap.size,2,none⟩=some (.int .i64 r.L.right))=>HH.out w' (he.below (hbA.trans (hs.1.mono hbA.size))))
        go_region_held3 (fun w'=>Below (wr.alloc (.cells #[.slice r.A r.L.coef.length r.c,.int .i64 r.L.kind,.int .i64 r.L.right] 45)).heap.size (wr.alloc (.cells #[.slice r.A r.L.coef.length r.c,.int .i64 r.L.kind,.int .i64 r.L.right] 45)) w'∧w'.cell? ⟨wr.heap.size,1,none⟩=some (.int .i64 r.L.kind)∧w'.cell? ⟨wr.heap.size,2,none⟩=some (.int .i64 r.L.right))
         (first | (exact keepT (new_lt wr _) (new_lt wr _) (by assumption) hb3) | (with_reducible exact hS0))
         (first | (go_at_call 63;((with_reducible refine (HO2.out _ (by assumption)).mono ?_);rintro e w3 ⟨rfl,hb3⟩)) | (go_at_call 90;((with_reducible refine (HH2.out _ (by assumption)).mono ?_);rintro e w3 ⟨rfl,hb3⟩)))
        all_goals
         have a3:=(show Below (wr.alloc (.cells #[.slice r.A r.L.coef.length r.c,.int .i64 r.L.kind,.int .i64 r.L.right] 45)).heap.size (wr.alloc (.cells #[.slice r.A r.L.coef.length r.c,.int .i64 r.L.kind,.int .i64 r.L.right] 45)) w3∧w3.cell? ⟨wr.heap.size,1,none⟩=some (.int .i64 r.L.kind)∧w3.cell? ⟨wr.heap.size,2,none⟩=some (.int .i64 r.L.right) from by assumption).1
         go_wp2_with fail
         go_ret
         exact ⟨ret_bool HBB.out.symm,hbA.trans (a3.mono hbA.size)⟩
       ·have HH:=Lib.hid (fun (w:World) (he:Env w)=>lholds_any r.L.kind v1 (decI r.L.right) w (by omega) (by omega) he)
        rw [hh] at HH
        have HBB:=Lib.hid (HT.out (by rw [HRW.out,hh];rfl))
        go_wp2_with fail
        refine (HL.out _ (HP.out.below hbA) (HX.out.below hbA) (he.below hbA)).mono ?_
        rintro e w2 ⟨rfl,hb2⟩
        have hr2:=row_on row1 hb2
        have e1:w2.cell? ⟨wr.heap.size,1,none⟩=some (.int .i64 r.L.kind):=by rw [cell_of_row w2 wr.heap.size 1 _ _ _ hr2];rfl
        have e2:w2.cell? ⟨wr.heap.size,2,none⟩=some (.int .i64 r.L.right):=by rw [cell_of_row w2 wr.heap.size 2 _ _ _ hr2];rfl
        clear hr2
        go_wp2_with fail
        have hS0:Below (wr.alloc (.cells #[.slice r.A r.L.coef.length r.c,.int .i64 r.L.kind,.int .i64 r.L.right] 45)).heap.size (wr.alloc (.cells #[.slice r.A r.L.coef.length r.c,.int .i64 r.L.kind,.int .i64 r.L.right] 45)) w2.drew∧w2.drew.cell? ⟨wr.heap.size,1,none⟩=some (.int .i64 r.L.kind)∧w2.drew.cell? ⟨wr.heap.size,2,none⟩=some (.int .i64 r.L.right):=⟨below_drew hb2,e1,e2⟩
        have HO2:=Lib.hid (fun w' (hs:Below (wr.alloc (.cells #[.slice r.A r.L.coef.length r.c,.int .i64 r.L.kind,.int .i64 r.L.right] 45)).heap.size (wr.alloc (.cells #[.slice r.A r.L.coef.length r.c,.int .i64 r.L.kind,.int .i64 r.L.right] 45)) w'∧w'.cell? ⟨wr.heap.size,1,none⟩=some (.int .i64 r.L.kind)∧w'.cell? ⟨wr.heap.size,2,none⟩=some (.int .i64 r.L.right))=>qof_any r.L.right w' hfr (he.below (hbA.trans (hs.1.mono hbA.size))).1)
        have HH2:=Lib.hid (fun w' (hs:Below (wr.alloc (.cells #[.slice r.A r.L.coef.length r.c,.int .i64 r.L.kind,.int .i64 r.L.right] 45)).heap.size (wr.alloc (.cells #[.slice r.A r.L.coef.length r.c,.int .i64 r.L.kind,.int .i64 r.L.right] 45)) w'∧w'.cell? ⟨wr.heap.size,1,none⟩=some (.int .i64 r.L.kind)∧w'.cell? ⟨wr.heap.size,2,none⟩=some (.int .i64 r.L.right))=>HH.out w' (he.below (hbA.trans (hs.1.mono hbA.size))))
        go_region_held3 (fun w'=>Below (wr.alloc (.cells #[.slice r.A r.L.coef.length r.c,.int .i64 r.L.kind,.int .i64 r.L.right] 45)).heap.size (wr.alloc (.cells #[.slice r.A r.L.coef.length r.c,.int .i64 r.L.kind,.int .i64 r.L.right] 45)) w'∧w'.cell? ⟨wr.heap.size,1,none⟩=some (.int .i64 r.L.kind)∧w'.cell? ⟨wr.heap.size,2,none⟩=some (.int .i64 r.L.right))
         (first | (exact keepT (new_lt wr _) (new_lt wr _) (by assumption) hb3) | (with_reducible exact hS0))
         (first | (go_at_call 63;((with_reducible refine (HO2.out _ (by assumption)).mono ?_);rintro e w3 ⟨rfl,hb3⟩)) | (go_at_call 90;((with_reducible refine (HH2.out _ (by assumption)).mono ?_);rintro e w3 ⟨rfl,hb3⟩)))
        all_goals
         have a3:=(show Below (wr.alloc (.cells #[.slice r.A r.L.coef.length r.c,.int .i64 r.L.kind,.int .i64 r.L.right] 45)).heap.size (wr.alloc (.cells #[.slice r.A r.L.coef.length r.c,.int .i64 r.L.kind,.int .i64 r.L.right] 45)) w3∧w3.cell? ⟨wr.heap.size,1,none⟩=some (.int .i64 r.L.kind)∧w3.cell? ⟨wr.heap.size,2,none⟩=some (.int .i64 r.L.right) from by assumption).1
         go_wp2_with fail
         go_roundw
         case rel=>exact ⟨j+1,by omega,by go_num,HBB.out,(hbel0.trans (n1.mono hbel0.size)).trans (a3.mono (Nat.le_trans hbel0.size n1.size))⟩
         case measure=>simp [intOf];omega
      ·have hv1:(v2 != 0)=true:=by simpa using hv
       have HBB:=Lib.hid (show fitsB (linOf cost rs) xs=false by rw [HV.out,HB.out (by rw [HRW.out];simp [hv])])
       clear hv
       go_wp2_with fail
       refine (HL.out _ (HP.out.below hbA) (HX.out.below hbA) (he.below hbA)).mono ?_
       rintro e w2 ⟨rfl,hb2⟩
       go_wp2_with fail
       go_quiet (fail)
       go_wp2_with fail
       go_ret
       exact ⟨ret_bool HBB.out.symm,below_drewN (hbA.trans (hb2.mono hbA.size)) _⟩
     ·have hjx:j=rs.length:=by omega
      have HA:=Lib.hid (show fitsB (linOf cost rs) xs=true by rw [HV.out];have:=HALL.out;rwa [hjx,List.take_length] at this)
      clear hjx hlin
      go_wp2_with fail
      go_ret
      exact ⟨ret_bool HA.out.symm,hbel⟩
 ·have hne:((xs.length:Int) != (cost.length:Int))=true:=by rw [bne_iff_ne];omega
  have HV:=Lib.hid (show fitsB (linOf cost rs) xs=false by unfold fitsB;rw [show decide (xs.length=(linOf cost rs).cost.length)=false by simp [linOf,heq]];rfl)
  clear heq
  go_enter Tryz.func49,Tryz.ntmps49
  go_wp2_with fail
  go_ret
  exact ⟨ret_bool HV.out.symm,b0⟩
theorem lint_info:(Tryz.prog.info? 3).map (fun i=>(i.zero,i.size,i.bytes))=some (some (.int .i64 0),1,8):=by kernel_rfl
theorem el_int:Elem Tryz.prog 22 3 (.int .i64 0) 8:=⟨Tryz.underlying22,info_parts lint_info,rfl⟩
theorem ints_take {ns:List Int} {k:Nat} {n:Int} (h:ns[k]? = some n):ints (ns.take k) ++ [.int .i64 n]=ints (ns.take (k+1)):=by
 rw [List.take_add_one,h];unfold ints;rw [List.map_append];rfl
theorem rights_len (cost:List Int) (rs:List RowV):(rightsL (linOf cost rs)).length=rs.length:=by simp [rightsL,linOf]
theorem rights_at (cost:List Int) (rs:List RowV) (k:Nat) (h:k<rs.length):(rightsL (linOf cost rs))[k]? = some rs[k].L.right:=by
 unfold rightsL linOf;rw [List.getElem?_map,List.getElem?_map,List.getElem?_eq_getElem h];rfl
theorem cells_ints {w:World} {Bs:Nat} {A:Option Addr} {c:Nat} {ns:List Int} (h:OwnS w Bs 3 A ns.length c (ints ns)):Cells w A (ints ns):=by
 intro h0
 rw [ints_length] at h0
 obtain ⟨g,rfl,hg1,hg2,hgc,hgf⟩:=h.at_ h0
 refine ⟨g,0,rfl,hg2,fun j u hu=>?_⟩
 have hj:=(List.getElem?_eq_some_iff.1 hu).1
 rw [ints_length] at hj
 rw [Nat.zero_add,hgc j hj];exact hu
theorem cells_ints' {w:World} {Bs:Nat} {A:Option Addr} {k c:Nat} {ns:List Int} (hk:k=ns.length) (h:OwnS w Bs 3 A k c (ints ns)):Cells w A (ints ns):=by subst hk;exact cells_ints h
theorem rights_fits {rs:List RowV} (cost:List Int) (h:∀ r ∈ rs,r.ok):∀ n ∈ rightsL (linOf cost rs),fits n:=by
 intro n hn
 simp only [rightsL,linOf,List.map_map,List.mem_map] at hn
 obtain ⟨r,hr,rfl⟩:=hn
 exact (h r hr).2.2.2.2
set_option maxHeartbeats 2000000 in
set_option maxRecDepth 100000 in
theorem lbound_any (cost:List Int) (rs:List RowV) (A:Option Addr) (ca:Nat) (R:Option Addr) (cr:Nat) (xs:List Str) (X:Option Addr) (cx:Nat) (w:World) (hm:rs.length≤1000000) (hp:LinAt w cost rs A ca R cr) (hx:RatsAt w xs X cx) (he:Env w) :
  Calls Tryz.prog 95 #[linV A cost.length ca R rs.length cr,.slice X xs.length cx] w fun e w'=>e=.returned (.tuple #[.string (B (timesQ (rightsL (linOf cost rs)) xs).1),.bool ((timesQ (rightsL (linOf cost rs)) xs).2 == 0)])∧Below w.heap.size w w':=by
 have hla:=hp.la
 have hlr:=hp.lr
 have hlx:=hx.lx
 unfold maxLen at hla hlr hlx
 have b0:=new_below w (linO A cost.length ca R rs.length cr)
 have HP:=Lib.hid hp
 have HX:=Lib.hid hx
 have HFR:=Lib.hid (rights_fits cost hp.ok)
 have HRL:=Lib.hid (rights_len cost rs)
 have HRA:=Lib.hid (rights_at cost rs)
 generalize rightsL (linOf cost rs)=ns at *
 clear hp hx
 have HBW:=Lib.hid (fun wr (h:Below (w.alloc (linO A cost.length ca R rs.length cr)).heap.size (w.alloc (linO A cost.length ca R rs.length cr)) wr)=>b0.trans (h.mono b0.size))
 go_enter Tryz.func95,Tryz.ntmps95
 simp only [B_mk]
 go_wp2_with fail
 go_loopw [6,8,14] (fun v _ i wr=>∃ (k:Nat) (A2:Option Addr) (c2:Nat),k≤rs.length∧i=.int .i64 k∧v=.slice A2 k c2∧OwnS wr (w.alloc (linO A cost.length ca R rs.length cr)).heap.size 3 A2 k c2 (ints (ns.take k))∧Below (w.alloc (linO A cost.length ca R rs.length cr)).heap.size (w.alloc (linO A cost.length ca R rs.length cr)) wr) (fun _ _ i _=>rs.length - (intOf i).toNat)
 case atStart=>exact ⟨0,none,0,Nat.zero_le _,rfl,rfl,OwnS.nil _ _ _,Below.refl _ _⟩
 case round =>
  obtain ⟨k,A2,c2,hk,rfl,rfl,hown,hbel0⟩:=hrel
  have hbel:=HBW.out wr hbel0
  by_cases hlt:k<rs.length
  ·obtain ⟨bR,oR,rfl,hbR,hcR⟩:=HP.out.rows.at (by omega)
   have hc0:=(hbel.cell (p:=⟨bR,oR+k*3,none⟩) hbR).trans (hcR k hlt).1
   have hc1:=(hbel.cell (p:=⟨bR,oR+k*3+1,none⟩) hbR).trans (hcR k hlt).2.1
   have hc2:=(hbel.cell (p:=⟨bR,oR+k*3+2,none⟩) hbR).trans (hcR k hlt).2.2
   clear hcR
   have HTK:=Lib.hid (ints_take (HRA.out k hlt))
   generalize rs[k]=r at *
   have n1:=new_below wr (.cells #[.slice r.A r.L.coef.length r.c,.int .i64 r.L.kind,.int .i64 r.L.right] 45)
   have hbA:=hbel.trans (n1.mono hbel.size)
   have hbA0:=hbel0.trans (n1.mono hbel0.size)
   have hown1:=hown.below n1
   have hcap:=hown.cap
   go_wp2_with (at_builtin;refine wp_app1 el_int rfl _ _ rfl (w.alloc (linO A cost.length ca (some ⟨bR,oR,none⟩) rs.length cr)).heap.size _ _ _ _ _ (.int .i64 r.L.right) rfl hown1 (by rw [World.size_alloc];rfl) rfl (by unfold maxLen;omega) (by omega) hbA0.size ?_;intro A3 c3 w3 hown3 hb3)
   go_roundw
   case rel=>exact ⟨k+1,A3,c3,by omega,by go_num,rfl,by rw [HTK.out] at hown3;exact hown3,hbA0.trans hb3⟩
   case measure=>simp [intOf];omega
  ·have hkx:k=rs.length:=by omega
   have HNS:=Lib.hid (show ns.take k=ns by rw [hkx,← HRL.out,List.take_length])
   rw [HNS.out] at hown
   have HN:=Lib.hid (show k=ns.length by have:=HRL.out;omega)
   clear hkx
   have HT:=Lib.hid (qtimes_any ns xs A2 X c2 cx wr (cells_ints' HN.out hown) (HX.out.cells.below hbel) (by have:=HRL.out;unfold maxLen;omega) (by unfold maxLen;omega) HFR.out HX.out.len (he.below hbel))
   rw [← HN.out] at HT
   generalize hv:timesQ ns xs=v at HT
   have HVV:=Lib.hid hv
   clear hv
   go_wp2_with fail
   refine HT.out.mono ?_
   rintro e w1 ⟨rfl,hb1⟩
   go_wp2_with fail
   go_ret2
   exact ⟨by rw [HVV.out];rfl,hbel.trans (hb1.mono hbel.size)⟩
theorem signs_zip (cost:List Int) (rs:List RowV) (xs:List Str):(linOf cost rs).rows.zip xs=(rs.zip xs).map (fun q=>(q.1.L,q.2)):=by
 unfold linOf
 rw [List.zip_map_left]
 rfl
theorem signs_all (cost:List Int) (rs:List RowV) (xs:List Str):signsB (linOf cost rs) xs=(decide (xs.length=rs.length) && (rs.zip xs).all (fun q=>signB q.1.L q.2)):=by
 unfold signsB;rw [signs_zip,List.all_map,lin_rows];rfl
set_option maxHeartbeats 2000000 in
set_option maxRecDepth 100000 in
theorem lsigns_any (cost:List Int) (rs:List RowV) (A:Option Addr) (ca:Nat) (R:Option Addr) (cr:Nat) (xs:List Str) (X:Option Addr) (cx:Nat) (w:World) (hp:LinAt w cost rs A ca R cr) (hx:RatsAt w xs X cx) (he:Env w) :
  Calls Tryz.prog 92 #[linV A cost.length ca R rs.length cr,.slice X xs.length cx] w fun e w'=>e=.returned (.bool (signsB (linOf cost rs) xs))∧Below w.heap.size w w':=by
 have hla:=hp.la
 have hlr:=hp.lr
 have hlx:=hx.lx
 unfold maxLen at hla hlr hlx
 have b0:=new_below w (linO A cost.length ca R rs.length cr)
 have HP:=Lib.hid hp
 have HX:=Lib.hid hx
 clear hp hx
 by_cases heq:xs.length=rs.length
 ·have HE:=Lib.hid heq
  have hq:((xs.length:Int) != (rs.length:Int))=false:=by rw [heq];simp
  clear heq
  have HBW:=Lib.hid (fun wr (h:Below (w.alloc (linO A cost.length ca R rs.length cr)).heap.size (w.alloc (linO A cost.length ca R rs.length cr)) wr)=>b0.trans (h.mono b0.size))
  have HV:=Lib.hid (show signsB (linOf cost rs) xs=(rs.zip xs).all (fun q=>signB q.1.L q.2) by rw [signs_all,HE.out];simp)
  go_enter Tryz.func92,Tryz.ntmps92
  go_wp2_with fail
  go_loopw [4,5,6,7,17] (fun _ _ _ _ i wr=>∃ k:Nat,k≤rs.length∧i=.int .i64 k∧((rs.zip xs).take k).all (fun q=>signB q.1.L q.2)=true∧Below (w.alloc (linO A cost.length ca R rs.length cr)).heap.size (w.alloc (linO A cost.length ca R rs.length cr)) wr) (fun _ _ _ _ i _=>rs.length - (intOf i).toNat)
  case atStart=>exact ⟨0,Nat.zero_le _,rfl,rfl,Below.refl _ _⟩
  case round =>
   obtain ⟨k,hk,rfl,hall,hbel0⟩:=hrel
   have HALL:=Lib.hid hall
   clear hall
   have hbel:=HBW.out wr hbel0
   by_cases hlt:k<rs.length
   ·have hlx2:k<xs.length:=by have:=HE.out;omega
    have hzl:k<(rs.zip xs).length:=by rw [List.length_zip];omega
    obtain ⟨bA,oA,rfl,hbA,hcA⟩:=HX.out.cells.at (by rw [strs_length];omega)
    obtain ⟨bR,oR,rfl,hbR,hcR⟩:=HP.out.rows.at (by omega)
    have hc0:=(hbel.cell (p:=⟨bR,oR+k*3,none⟩) hbR).trans (hcR k hlt).1
    have hc1:=(hbel.cell (p:=⟨bR,oR+k*3+1,none⟩) hbR).trans (hcR k hlt).2.1
    have hc2:=(hbel.cell (p:=⟨bR,oR+k*3+2,none⟩) hbR).trans (hcR k hlt).2.2
    have HC:=Lib.hid (fun (w':World) (h:Below w.heap.size w w')=>(show w'.cell? ⟨bA,oA+k,none⟩=some (.string (B xs[k])) by
     rw [h.cell (p:=⟨bA,oA+k,none⟩) hbA,hcA k (by rw [strs_length];exact hlx2)];simp [strs]))
    clear hcR hcA
    have hxl:=HX.out.len xs[k] (List.getElem_mem hlx2)
    have HR:=Lib.hid (fun (w:World) (he:Env w)=>rq_any xs[k] w (by omega) he)
    have HS:=Lib.hid (fun (w:World) (he:Env w)=>qsign_any xs[k] w (by omega) he)
    have hz:(rs.zip xs)[k]=(rs[k],xs[k]):=List.getElem_zip
    have HT:=Lib.hid (fun h=>all_take (f:=fun q:RowV × Str=>signB q.1.L q.2) hzl HALL.out (by rw [hz];exact h))
    have HB:=Lib.hid (fun h=>all_bad (f:=fun q:RowV × Str=>signB q.1.L q.2) hzl (by rw [hz];exact h))
    have HRW:=Lib.hid (show signB rs[k].L xs[k]=(rightQ xs[k] && !(decide (rs[k].L.kind=1) && decide (0<signQ xs[k])) && !(decide (rs[k].L.kind=3) && decide (signQ xs[k]<0))) from rfl)
    clear hz
    generalize xs[k]=x at *
    generalize rs[k]=r at *
    generalize signQ x=sg at *
    generalize hrk:rightQ x=rk at *
    have n1:=new_below wr (.cells #[.slice r.A r.L.coef.length r.c,.int .i64 r.L.kind,.int .i64 r.L.right] 45)
    have row1:=row_new (w:=wr) (o:=.cells #[.slice r.A r.L.coef.length r.c,.int .i64 r.L.kind,.int .i64 r.L.right] 45)
    have hbB:=hbel.trans (n1.mono hbel.size)
    have hbB0:=hbel0.trans (n1.mono hbel0.size)
    have hd1:=HC.out _ hbB
    cases rk
    ·skip
     have HBB:=Lib.hid (show signsB _ xs=false by rw [HV.out,HB.out (by rw [HRW.out];rfl)])
     go_wp2_with fail
     refine (HS.out _ (he.below hbB)).mono ?_
     rintro e w2 ⟨rfl,hb2⟩
     have a2:=hbB.trans (hb2.mono hbB.size)
     have hd2:=HC.out _ a2
     go_wp2_with fail
     refine (HR.out _ (he.below a2)).mono ?_
     rintro e w3 ⟨rfl,hb3⟩
     have a3:=a2.trans (hb3.mono a2.size)
     have hr3:=row_on (row_on row1 hb2) hb3
     have e1:w3.cell? ⟨wr.heap.size,1,none⟩=some (.int .i64 r.L.kind):=by rw [cell_of_row w3 wr.heap.size 1 _ _ _ hr3];rfl
     clear hr3 hd1 hd2
     go_wp2_with fail
     go_ret
     exact ⟨ret_bool HBB.out.symm,a3⟩
    ·by_cases k1:r.L.kind=1
     ·have k1b:(r.L.kind == 1)=true:=by simpa using k1
      have k3b:(r.L.kind == 3)=false:=by rw [k1];rfl
      by_cases hs:0<sg
      ·skip
       have HBB:=Lib.hid (show signsB _ xs=false by rw [HV.out,HB.out (by rw [HRW.out];simp [k1,hs])])
       clear k1
       go_wp2_with fail
       refine (HS.out _ (he.below hbB)).mono ?_
       rintro e w2 ⟨rfl,hb2⟩
       have a2:=hbB.trans (hb2.mono hbB.size)
       have hd2:=HC.out _ a2
       go_wp2_with fail
       refine (HR.out _ (he.below a2)).mono ?_
       rintro e w3 ⟨rfl,hb3⟩
       have a3:=a2.trans (hb3.mono a2.size)
       have hr3:=row_on (row_on row1 hb2) hb3
       have e1:w3.cell? ⟨wr.heap.size,1,none⟩=some (.int .i64 r.L.kind):=by rw [cell_of_row w3 wr.heap.size 1 _ _ _ hr3];rfl
       clear hr3 hd1 hd2
       go_wp2_with fail
       go_ret
       exact ⟨ret_bool HBB.out.symm,a3⟩
      ·skip
       have HBB:=Lib.hid (HT.out (by rw [HRW.out];simp [k1,hs]))
       clear k1
       go_wp2_with fail
       refine (HS.out _ (he.below hbB)).mono ?_
       rintro e w2 ⟨rfl,hb2⟩
       have a2:=hbB.trans (hb2.mono hbB.size)
       have hd2:=HC.out _ a2
       go_wp2_with fail
       refine (HR.out _ (he.below a2)).mono ?_
       rintro e w3 ⟨rfl,hb3⟩
       have a3:=a2.trans (hb3.mono a2.size)
       have hr3:=row_on (row_on row1 hb2) hb3
       have e1:w3.cell? ⟨wr.heap.size,1,none⟩=some (.int .i64 r.L.kind):=by rw [cell_of_row w3 wr.heap.size 1 _ _ _ hr3];rfl
       clear hr3 hd1 hd2
       go_wp2_with fail
       go_roundw
       case rel=>exact ⟨k+1,by omega,by go_num,HBB.out,(hbB0.trans (hb2.mono hbB0.size)).trans (hb3.mono (Nat.le_trans hbB0.size hb2.size))⟩
       case measure=>simp [intOf];omega
     ·have k1b:(r.L.kind == 1)=false:=by simpa using k1
      by_cases k3:r.L.kind=3
      ·have k3b:(r.L.kind == 3)=true:=by simpa using k3
       by_cases hs:sg<0
       ·skip
        have HBB:=Lib.hid (show signsB _ xs=false by rw [HV.out,HB.out (by rw [HRW.out];simp [k3,hs])])
        clear k3
        go_wp2_with fail
        refine (HS.out _ (he.below hbB)).mono ?_
        rintro e w2 ⟨rfl,hb2⟩
        have a2:=hbB.trans (hb2.mono hbB.size)
        have hd2:=HC.out _ a2
        go_wp2_with fail
        refine (HR.out _ (he.below a2)).mono ?_
        rintro e w3 ⟨rfl,hb3⟩
        have a3:=a2.trans (hb3.mono a2.size)
        have hr3:=row_on (row_on row1 hb2) hb3
        have e1:w3.cell? ⟨wr.heap.size,1,none⟩=some (.int .i64 r.L.kind):=by rw [cell_of_row w3 wr.heap.size 1 _ _ _ hr3];rfl
        clear hr3 hd1 hd2
        go_wp2_with fail
        go_ret
        exact ⟨ret_bool HBB.out.symm,a3⟩
       ·skip
        have HBB:=Lib.hid (HT.out (by rw [HRW.out];simp [k3,hs]))
        clear k3
        go_wp2_with fail
        refine (HS.out _ (he.below hbB)).mono ?_
        rintro e w2 ⟨rfl,hb2⟩
        have a2:=hbB.trans (hb2.mono hbB.size)
        have hd2:=HC.out _ a2
        go_wp2_with fail
        refine (HR.out _ (he.below a2)).mono ?_
        rintro e w3 ⟨rfl,hb3⟩
        have a3:=a2.trans (hb3.mono a2.size)
        have hr3:=row_on (row_on row1 hb2) hb3
        have e1:w3.cell? ⟨wr.heap.size,1,none⟩=some (.int .i64 r.L.kind):=by rw [cell_of_row w3 wr.heap.size 1 _ _ _ hr3];rfl
        clear hr3 hd1 hd2
        go_wp2_with fail
        go_roundw
        case rel=>exact ⟨k+1,by omega,by go_num,HBB.out,(hbB0.trans (hb2.mono hbB0.size)).trans (hb3.mono (Nat.le_trans hbB0.size hb2.size))⟩
        case measure=>simp [intOf];omega
      ·have k3b:(r.L.kind == 3)=false:=by simpa using k3
       have HBB:=Lib.hid (HT.out (by rw [HRW.out];simp [k1,k3]))
       go_wp2_with fail
       refine (HS.out _ (he.below hbB)).mono ?_
       rintro e w2 ⟨rfl,hb2⟩
       have a2:=hbB.trans (hb2.mono hbB.size)
       have hd2:=HC.out _ a2
       go_wp2_with fail
       refine (HR.out _ (he.below a2)).mono ?_
       rintro e w3 ⟨rfl,hb3⟩
       have a3:=a2.trans (hb3.mono a2.size)
       have hr3:=row_on (row_on row1 hb2) hb3
       have e1:w3.cell? ⟨wr.heap.size,1,none⟩=some (.int .i64 r.L.kind):=by rw [cell_of_row w3 wr.heap.size 1 _ _ _ hr3];rfl
       clear hr3 hd1 hd2
       go_wp2_with fail
       go_roundw
       case rel=>exact ⟨k+1,by omega,by go_num,HBB.out,(hbB0.trans (hb2.mono hbB0.size)).trans (hb3.mono (Nat.le_trans hbB0.size hb2.size))⟩
       case measure=>simp [intOf];omega
   ·have hkx:k=rs.length:=by omega
    have HA:=Lib.hid (show signsB (linOf cost rs) xs=true by
     rw [HV.out];have:=HALL.out
     rwa [List.take_of_length_le (by rw [List.length_zip];omega)] at this)
    clear hkx
    go_wp2_with fail
    go_ret
    exact ⟨ret_bool HA.out.symm,hbel⟩
 ·have hne:((xs.length:Int) != (rs.length:Int))=true:=by rw [bne_iff_ne];omega
  have HV:=Lib.hid (show signsB (linOf cost rs) xs=false by rw [signs_all];simp [heq])
  clear heq
  go_enter Tryz.func92,Tryz.ntmps92
  go_wp2_with fail
  go_ret
  exact ⟨ret_bool HV.out.symm,b0⟩
end Go.Proofs.YtmppmdmekomjbaaGreatDoor

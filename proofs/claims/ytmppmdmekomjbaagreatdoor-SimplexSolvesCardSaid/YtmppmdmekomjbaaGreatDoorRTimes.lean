/- ratio.Times and lorryref04.Times. (Printed by wip/rtimes.py.) -/
import Derived.Test.YtmppmdmekomjbaaGreatDoorRTimesP
import Derived.Test.YtmppmdmekomjbaaGreatDoorRRef5
import Derived.Test.YtmppmdmekomjbaaGreatDoorG48
import Derived.Test.YtmppmdmekomjbaaGreatDoorRProg8
import Derived.Test.YtmppmdmekomjbaaGreatDoorG11
import Derived.Deep.RegionHeld3
namespace Go.Proofs.YtmppmdmekomjbaaGreatDoor
open Go.RowKit Num
set_option linter.unusedVariables false
attribute [local go_sem] B_size B_get B_toList B_mk B_extract B_append
attribute [local go_sem high] run_max2
theorem ret_pair {v:Str × Int} {s:Str} {k:Int} (h:v=(s,k)):Ending.returned (.tuple #[.string (B s),.int .i64 k])=.returned (.tuple #[.string (B v.1),.int .i64 v.2]):=by rw [h]
theorem keepT {w wo wn:World} {p q:Addr} {x y:Value} (hp:p.block<w.heap.size) (hq:q.block<w.heap.size) (h:Below w.heap.size w wo∧wo.cell? p=some x∧wo.cell? q=some y) (hb:Below wo.heap.size wo wn) :
  Below w.heap.size w wn∧wn.cell? p=some x∧wn.cell? q=some y :=
 ⟨h.1.trans (hb.mono h.1.size),(hb.cell (Nat.lt_of_lt_of_le hp h.1.size)).trans h.2.1,(hb.cell (Nat.lt_of_lt_of_le hq h.1.size)).trans h.2.2⟩
theorem Cells.at {w:World} {A:Option Addr} {vs:List Value} (h:Cells w A vs) (h0:0<vs.length):∃ b off,A=some ⟨b,off,none⟩∧b<w.heap.size∧∀ j (hj:j<vs.length),w.cell? ⟨b,off+j,none⟩=some vs[j]:=by
 obtain ⟨b,off,e,hb,hc⟩:=h h0
 exact ⟨b,off,e,hb,fun j hj=>hc j _ (List.getElem?_eq_getElem hj)⟩
set_option maxHeartbeats 2000000 in
set_option maxRecDepth 100000 in
theorem qtimes_any (ns:List Int) (xs:List Str) (N A:Option Addr) (cn ca:Nat) (w:World) (hN:Cells w N (ints ns)) (hA:Cells w A (strs xs)) (hn:ns.length≤maxLen) (ha:xs.length≤maxLen) (hfit:∀ n ∈ ns,fits n) (hlen:∀ x ∈ xs,x.length≤100000) (he:Env w) :
  Calls Tryz.prog 69 #[.slice N ns.length cn,.slice A xs.length ca] w fun e w'=>e=.returned (.tuple #[.string (B (timesQ ns xs).1),.int .i64 (timesQ ns xs).2])∧Below w.heap.size w w':=by
 unfold maxLen at hn ha
 have HN:=Lib.hid hN
 have HA:=Lib.hid hA
 have HF:=Lib.hid hfit
 have HL:=Lib.hid hlen
 clear hN hA hfit hlen
 by_cases heq:ns.length=xs.length
 ·have HE:=Lib.hid heq
  have hq:(((ns.length:Nat):Int) != ((xs.length:Nat):Int))=false:=by rw [heq];simp
  clear heq
  go_enter Tryz.func69,Tryz.ntmps69
  go_wp2_with fail
  go_loopw [4,5,7,20] (fun _ _ _ i wr=>∃ k:Nat,k≤xs.length∧i=.int .i64 k∧(xs.take k).all rightQ=true∧Below w.heap.size w wr) (fun _ _ _ i _=>xs.length - (intOf i).toNat)
  case atStart=>exact ⟨0,Nat.zero_le _,rfl,rfl,Below.refl _ _⟩
  case round =>
   obtain ⟨k,hk,rfl,hall,hbel⟩:=hrel
   have HALL:=Lib.hid hall
   clear hall
   by_cases hlt:k<xs.length
   ·obtain ⟨bA,oA,rfl,hbA,hcA⟩:=HA.out.at (by rw [strs_length];omega)
    have hld:wr.cell? ⟨bA,oA+k,none⟩=some (.string (B xs[k])):=by
     rw [hbel.cell (p:=⟨bA,oA+k,none⟩) hbA,hcA k (by rw [strs_length];exact hlt)];simp [strs]
    clear hcA
    have HR:=Lib.hid (fun (w:World) (he:Env w)=>rq_any xs[k] w (by have:=HL.out xs[k] (List.getElem_mem hlt);omega) he)
    have HT:=Lib.hid (take_all (xs:=xs) (k:=k) hlt)
    have HB:=Lib.hid (take_bad (xs:=xs) (k:=k) hlt)
    generalize xs[k]=x at *
    cases hr:rightQ x
    ·rw [hr] at HR
     have HV:=Lib.hid (show timesQ ns xs=([],3) by unfold timesQ;rw [if_pos HE.out,if_neg (by rw [HB.out hr];simp)])
     go_wp2_with fail
     refine (HR.out wr (he.below hbel)).mono ?_
     rintro e w1 ⟨rfl,hb1⟩
     go_wp2_with fail
     go_ret2
     exact ⟨ret_pair HV.out,hbel.trans (hb1.mono hbel.size)⟩
    ·rw [hr] at HR
     go_wp2_with fail
     refine (HR.out wr (he.below hbel)).mono ?_
     rintro e w1 ⟨rfl,hb1⟩
     go_wp2_with fail
     go_roundw
     case rel=>exact ⟨k+1,by omega,by go_num,by rw [HT.out,HALL.out,hr];rfl,hbel.trans (hb1.mono hbel.size)⟩
     case measure=>simp [intOf];omega
   ·have hkx:k=xs.length:=by omega
    have HV:=Lib.hid (show timesQ ns xs=foldT [48] ns xs by unfold timesQ;rw [if_pos HE.out,if_pos];have:=HALL.out;rwa [hkx,List.take_length] at this)
    clear HALL
    go_wp2_with fail
    go_loopw [4,5,8,9,10,11,12,30] (fun _ _ s _ _ _ _ i wr=>∃ (j:Nat) (t:Str),j≤ns.length∧i=.int .i64 j∧s=.string (B t)∧t.length≤100000∧foldT [48] ns xs=foldT t (ns.drop j) (xs.drop j)∧Below w.heap.size w wr) (fun _ _ _ _ _ _ _ i _=>ns.length - (intOf i).toNat)
    case atStart=>exact ⟨0,[48],Nat.zero_le _,rfl,by first | rfl | simp only [B_mk],by decide,rfl,hbel⟩
    case round =>
     clear hbel hlt hkx hk
     obtain ⟨j,t,hj,rfl,rfl,htl,hfo,hbel⟩:=hrel
     have HFO:=Lib.hid hfo
     clear hfo
     by_cases hlt:j<ns.length
     ·have hlx:j<xs.length:=by have:=HE.out;omega
      obtain ⟨bA,oA,rfl,hbA,hcA⟩:=HA.out.at (by rw [strs_length];omega)
      obtain ⟨bN,oN,rfl,hbN,hcN⟩:=HN.out.at (by rw [ints_length];omega)
      have hld:wr.cell? ⟨bA,oA+j,none⟩=some (.string (B xs[j])):=by
       rw [hbel.cell (p:=⟨bA,oA+j,none⟩) hbA,hcA j (by rw [strs_length];exact hlx)];simp [strs]
      have hln:wr.cell? ⟨bN,oN+j,none⟩=some (.int .i64 ns[j]):=by
       rw [hbel.cell (p:=⟨bN,oN+j,none⟩) hbN,hcN j (by rw [ints_length];exact hlt)];simp [ints]
      clear hcA hcN
      have hxl:=HL.out xs[j] (List.getElem_mem hlx)
      have hdl:=fits_len (HF.out ns[j] (List.getElem_mem hlt))
      have HO:=Lib.hid (fun (w:World) (he:Env w)=>qof_any ns[j] w (HF.out ns[j] (List.getElem_mem hlt)) he.1)
      have HM:=Lib.hid (fun (w:World) (he:Env w)=>qmul_any (decI ns[j]) xs[j] w (by omega) (by omega) he)
      have hml:=mulQ_len (decI ns[j]) xs[j]
      have HD:=Lib.hid (fun (w:World) (he:Env w)=>qadd_any t (mulQS (decI ns[j]) xs[j]) w (by omega) (by omega) he)
      have hal:=addQ_len t (mulQS (decI ns[j]) xs[j])
      have HST:=Lib.hid (HFO.out.trans (fold_step hlt hlx t))
      clear HFO
      have HI:=Lib.hid (show ∀ y:Str × Int,foldT [48] ns xs=y→y=foldT [48] ns xs from fun y h=>h.symm)
      generalize addQS t (mulQS (decI ns[j]) xs[j])=ad at *
      generalize addQE t (mulQS (decI ns[j]) xs[j])=ade at *
      generalize mulQS (decI ns[j]) xs[j]=m at *
      generalize mulQE (decI ns[j]) xs[j]=me at *
      generalize xs[j]=x at *
      generalize ns[j]=n at *
      clear hxl hdl
      by_cases hm0:me=0
      ·subst hm0
       by_cases ha0:ade=0
       ·subst ha0
        have HR:=Lib.hid (HST.out.trans (by rw [if_pos rfl,if_pos rfl]))
        go_wp2_with fail
        refine (HO.out wr (he.below hbel)).mono ?_
        rintro e w1 ⟨rfl,hb1⟩
        have a1:=hbel.trans (hb1.mono hbel.size)
        go_wp2_with fail
        refine (HM.out w1 (he.below a1)).mono ?_
        rintro e w2 ⟨rfl,hb2⟩
        have a2:=a1.trans (hb2.mono a1.size)
        go_wp2_with fail
        refine (HD.out w2 (he.below a2)).mono ?_
        rintro e w3 ⟨rfl,hb3⟩
        go_wp2_with fail
        go_roundw
        case rel=>exact ⟨j+1,ad,by omega,by go_num,rfl,by omega,HR.out,a2.trans (hb3.mono a2.size)⟩
        case measure=>simp [intOf];omega
       ·have ha0':(ade == 0)=false:=by simpa using ha0
        have HR:=Lib.hid (HST.out.trans (by rw [if_pos rfl,if_neg ha0]))
        clear ha0
        go_wp2_with fail
        refine (HO.out wr (he.below hbel)).mono ?_
        rintro e w1 ⟨rfl,hb1⟩
        have a1:=hbel.trans (hb1.mono hbel.size)
        go_wp2_with fail
        refine (HM.out w1 (he.below a1)).mono ?_
        rintro e w2 ⟨rfl,hb2⟩
        have a2:=a1.trans (hb2.mono a1.size)
        go_wp2_with fail
        refine (HD.out w2 (he.below a2)).mono ?_
        rintro e w3 ⟨rfl,hb3⟩
        go_wp2_with fail
        go_ret2
        exact ⟨ret_pair (HV.out.trans HR.out),a2.trans (hb3.mono a2.size)⟩
      ·have hm0':(me == 0)=false:=by simpa using hm0
       have HR:=Lib.hid (HST.out.trans (by rw [if_neg hm0]))
       clear hm0
       go_wp2_with fail
       refine (HO.out wr (he.below hbel)).mono ?_
       rintro e w1 ⟨rfl,hb1⟩
       have a1:=hbel.trans (hb1.mono hbel.size)
       go_wp2_with fail
       refine (HM.out w1 (he.below a1)).mono ?_
       rintro e w2 ⟨rfl,hb2⟩
       have a2:=a1.trans (hb2.mono a1.size)
       go_wp2_with fail
       go_ret2
       exact ⟨ret_pair (HV.out.trans HR.out),a2⟩
     ·have hjn:j=ns.length:=by omega
      have HR:=Lib.hid (HFO.out.trans (show foldT t (ns.drop j) (xs.drop j)=(t,0) by rw [hjn,List.drop_length];unfold foldT;rfl))
      have hjx:¬ j<xs.length:=by have:=HE.out;omega
      clear HFO hjn
      go_wp2_with fail
      go_ret2
      exact ⟨ret_pair (HV.out.trans HR.out),hbel⟩
 ·have hne:(((ns.length:Nat):Int) != ((xs.length:Nat):Int))=true:=by rw [bne_iff_ne];omega
  have HV:=Lib.hid (show timesQ ns xs=([],2) from if_neg heq)
  clear heq
  go_enter Tryz.func69,Tryz.ntmps69
  simp only [B_mk]
  go_wp2_with fail
  go_ret2
  exact ⟨ret_pair HV.out,Below.refl _ _⟩
set_option maxHeartbeats 2000000 in
set_option maxRecDepth 100000 in
theorem rqtimes_any (ns:List Int) (xs:List Str) (N A:Option Addr) (cn ca:Nat) (w:World) (hN:Cells w N (ints ns)) (hA:Cells w A (strs xs)) (hn:ns.length≤maxLen) (ha:xs.length≤maxLen) (hfit:∀ n ∈ ns,fits n) (hlen:∀ x ∈ xs,x.length≤100000) :
  Calls Tryz.prog 56 #[.slice N ns.length cn,.slice A xs.length ca] w fun e w'=>e=.returned (.tuple #[.string (B (timesQ ns xs).1),.int .i64 (timesQ ns xs).2])∧Below w.heap.size w w':=by
 unfold maxLen at hn ha
 have HN:=Lib.hid hN
 have HA:=Lib.hid hA
 have HF:=Lib.hid hfit
 have HL:=Lib.hid hlen
 clear hN hA hfit hlen
 by_cases heq:ns.length=xs.length
 ·have HE:=Lib.hid heq
  have hq:(((ns.length:Nat):Int) != ((xs.length:Nat):Int))=false:=by rw [heq];simp
  clear heq
  go_enter Tryz.func56,Tryz.ntmps56
  go_wp2_with fail
  go_loopw [4,5,6] (fun _ _ i wr=>∃ k:Nat,k≤xs.length∧i=.int .i64 k∧(xs.take k).all rightQ=true∧Below w.heap.size w wr) (fun _ _ i _=>xs.length - (intOf i).toNat)
  case atStart=>exact ⟨0,Nat.zero_le _,rfl,rfl,Below.refl _ _⟩
  case round =>
   obtain ⟨k,hk,rfl,hall,hbel⟩:=hrel
   have HALL:=Lib.hid hall
   clear hall
   by_cases hlt:k<xs.length
   ·obtain ⟨bA,oA,rfl,hbA,hcA⟩:=HA.out.at (by rw [strs_length];omega)
    have hld:wr.cell? ⟨bA,oA+k,none⟩=some (.string (B xs[k])):=by
     rw [hbel.cell (p:=⟨bA,oA+k,none⟩) hbA,hcA k (by rw [strs_length];exact hlt)];simp [strs]
    clear hcA
    have HR:=Lib.hid (fun w=>rrq_any xs[k] w (by have:=HL.out xs[k] (List.getElem_mem hlt);omega))
    have HT:=Lib.hid (take_all (xs:=xs) (k:=k) hlt)
    have HB:=Lib.hid (take_bad (xs:=xs) (k:=k) hlt)
    generalize xs[k]=x at *
    cases hr:rightQ x
    ·rw [hr] at HR
     have HV:=Lib.hid (show timesQ ns xs=([],3) by unfold timesQ;rw [if_pos HE.out,if_neg (by rw [HB.out hr];simp)])
     go_wp2_with fail
     refine (HR.out wr).mono ?_
     rintro e w1 ⟨rfl,hb1⟩
     go_wp2_with fail
     go_ret2
     exact ⟨ret_pair HV.out,hbel.trans (hb1.mono hbel.size)⟩
    ·rw [hr] at HR
     go_wp2_with fail
     refine (HR.out wr).mono ?_
     rintro e w1 ⟨rfl,hb1⟩
     go_wp2_with fail
     go_roundw
     case rel=>exact ⟨k+1,by omega,by go_num,by rw [HT.out,HALL.out,hr];rfl,hbel.trans (hb1.mono hbel.size)⟩
     case measure=>simp [intOf];omega
   ·have hkx:k=xs.length:=by omega
    have HV:=Lib.hid (show timesQ ns xs=foldT [48] ns xs by unfold timesQ;rw [if_pos HE.out,if_pos];have:=HALL.out;rwa [hkx,List.take_length] at this)
    clear HALL
    go_wp2_with fail
    go_loopw [4,5,7,8,9,10,11] (fun _ _ s i _ _ _ wr=>∃ (j:Nat) (t:Str),j≤ns.length∧i=.int .i64 j∧s=.string (B t)∧t.length≤100000∧foldT [48] ns xs=foldT t (ns.drop j) (xs.drop j)∧Below w.heap.size w wr) (fun _ _ _ i _ _ _ _=>ns.length - (intOf i).toNat)
    case atStart=>exact ⟨0,[48],Nat.zero_le _,rfl,by first | rfl | simp only [B_mk],by decide,rfl,hbel⟩
    case round =>
     clear hbel hlt hkx hk
     obtain ⟨j,t,hj,rfl,rfl,htl,hfo,hbel⟩:=hrel
     have HFO:=Lib.hid hfo
     clear hfo
     by_cases hlt:j<ns.length
     ·have hlx:j<xs.length:=by have:=HE.out;omega
      obtain ⟨bA,oA,rfl,hbA,hcA⟩:=HA.out.at (by rw [strs_length];omega)
      obtain ⟨bN,oN,rfl,hbN,hcN⟩:=HN.out.at (by rw [ints_length];omega)
      have hld:wr.cell? ⟨bA,oA+j,none⟩=some (.string (B xs[j])):=by
       rw [hbel.cell (p:=⟨bA,oA+j,none⟩) hbA,hcA j (by rw [strs_length];exact hlx)];simp [strs]
      have hln:wr.cell? ⟨bN,oN+j,none⟩=some (.int .i64 ns[j]):=by
       rw [hbel.cell (p:=⟨bN,oN+j,none⟩) hbN,hcN j (by rw [ints_length];exact hlt)];simp [ints]
      clear hcA hcN
      have hxl:=HL.out xs[j] (List.getElem_mem hlx)
      have hdl:=fits_len (HF.out ns[j] (List.getElem_mem hlt))
      have HO:=Lib.hid (fun w=>rqof_any ns[j] w (HF.out ns[j] (List.getElem_mem hlt)))
      have HM:=Lib.hid (fun w=>rqmul_any (decI ns[j]) xs[j] w (by omega) (by omega))
      have hml:=mulQ_len (decI ns[j]) xs[j]
      have HD:=Lib.hid (fun w=>rqadd_any t (mulQS (decI ns[j]) xs[j]) w (by omega) (by omega))
      have hal:=addQ_len t (mulQS (decI ns[j]) xs[j])
      have HST:=Lib.hid (HFO.out.trans (fold_step hlt hlx t))
      clear HFO
      have HI:=Lib.hid (show ∀ y:Str × Int,foldT [48] ns xs=y→y=foldT [48] ns xs from fun y h=>h.symm)
      generalize addQS t (mulQS (decI ns[j]) xs[j])=ad at *
      generalize addQE t (mulQS (decI ns[j]) xs[j])=ade at *
      generalize mulQS (decI ns[j]) xs[j]=m at *
      generalize mulQE (decI ns[j]) xs[j]=me at *
      generalize xs[j]=x at *
      generalize ns[j]=n at *
      clear hxl hdl
      by_cases hm0:me=0
      ·subst hm0
       by_cases ha0:ade=0
       ·subst ha0
        have HR:=Lib.hid (HST.out.trans (by rw [if_pos rfl,if_pos rfl]))
        go_wp2_with fail
        have hS0:Below w.heap.size w wr.drew∧wr.drew.cell? ⟨bA,oA+j,none⟩=some (.string (B x))∧wr.drew.cell? ⟨bN,oN+j,none⟩=some (.int .i64 n):=⟨below_drew hbel,hld,hln⟩
        go_region_held3 (fun w'=>Below w.heap.size w w'∧w'.cell? ⟨bA,oA+j,none⟩=some (.string (B x))∧w'.cell? ⟨bN,oN+j,none⟩=some (.int .i64 n))
         (first | (exact keepT hbA hbN (by assumption) hb2) | (with_reducible exact hS0))
         (first | (go_at_call 20;((with_reducible refine (HO.out _).mono ?_);rintro e w2 ⟨rfl,hb2⟩)) | (go_at_call 19;((with_reducible refine (HM.out _).mono ?_);rintro e w2 ⟨rfl,hb2⟩)))
        all_goals
         have a2:=(show Below w.heap.size w w2∧w2.cell? ⟨bA,oA+j,none⟩=some (.string (B x))∧w2.cell? ⟨bN,oN+j,none⟩=some (.int .i64 n) from by assumption).1
         go_wp2_with fail
         refine (HD.out w2).mono ?_
         rintro e w3 ⟨rfl,hb3⟩
         go_wp2_with fail
         go_roundw
         case rel=>exact ⟨j+1,ad,by omega,by go_num,rfl,by omega,HR.out,a2.trans (hb3.mono a2.size)⟩
         case measure=>simp [intOf];omega
       ·have ha0':(ade == 0)=false:=by simpa using ha0
        have HR:=Lib.hid (HST.out.trans (by rw [if_pos rfl,if_neg ha0]))
        clear ha0
        go_wp2_with fail
        have hS0:Below w.heap.size w wr.drew∧wr.drew.cell? ⟨bA,oA+j,none⟩=some (.string (B x))∧wr.drew.cell? ⟨bN,oN+j,none⟩=some (.int .i64 n):=⟨below_drew hbel,hld,hln⟩
        go_region_held3 (fun w'=>Below w.heap.size w w'∧w'.cell? ⟨bA,oA+j,none⟩=some (.string (B x))∧w'.cell? ⟨bN,oN+j,none⟩=some (.int .i64 n))
         (first | (exact keepT hbA hbN (by assumption) hb2) | (with_reducible exact hS0))
         (first | (go_at_call 20;((with_reducible refine (HO.out _).mono ?_);rintro e w2 ⟨rfl,hb2⟩)) | (go_at_call 19;((with_reducible refine (HM.out _).mono ?_);rintro e w2 ⟨rfl,hb2⟩)))
        all_goals
         have a2:=(show Below w.heap.size w w2∧w2.cell? ⟨bA,oA+j,none⟩=some (.string (B x))∧w2.cell? ⟨bN,oN+j,none⟩=some (.int .i64 n) from by assumption).1
         go_wp2_with fail
         refine (HD.out w2).mono ?_
         rintro e w3 ⟨rfl,hb3⟩
         go_wp2_with fail
         go_ret2
         exact ⟨ret_pair (HV.out.trans HR.out),a2.trans (hb3.mono a2.size)⟩
      ·have hm0':(me == 0)=false:=by simpa using hm0
       have HR:=Lib.hid (HST.out.trans (by rw [if_neg hm0]))
       clear hm0
       go_wp2_with fail
       have hS0:Below w.heap.size w wr.drew∧wr.drew.cell? ⟨bA,oA+j,none⟩=some (.string (B x))∧wr.drew.cell? ⟨bN,oN+j,none⟩=some (.int .i64 n):=⟨below_drew hbel,hld,hln⟩
       go_region_held3 (fun w'=>Below w.heap.size w w'∧w'.cell? ⟨bA,oA+j,none⟩=some (.string (B x))∧w'.cell? ⟨bN,oN+j,none⟩=some (.int .i64 n))
        (first | (exact keepT hbA hbN (by assumption) hb2) | (with_reducible exact hS0))
        (first | (go_at_call 20;((with_reducible refine (HO.out _).mono ?_);rintro e w2 ⟨rfl,hb2⟩)) | (go_at_call 19;((with_reducible refine (HM.out _).mono ?_);rintro e w2 ⟨rfl,hb2⟩)))
       all_goals
        have a2:=(show Below w.heap.size w w2∧w2.cell? ⟨bA,oA+j,none⟩=some (.string (B x))∧w2.cell? ⟨bN,oN+j,none⟩=some (.int .i64 n) from by assumption).1
        go_wp2_with fail
        go_ret2
        exact ⟨ret_pair (HV.out.trans HR.out),a2⟩
     ·have hjn:j=ns.length:=by omega
      have HR:=Lib.hid (HFO.out.trans (show foldT t (ns.drop j) (xs.drop j)=(t,0) by rw [hjn,List.drop_length];unfold foldT;rfl))
      have hjx:¬ j<xs.length:=by have:=HE.out;omega
      clear HFO hjn
      go_wp2_with fail
      go_ret2
      exact ⟨ret_pair (HV.out.trans HR.out),hbel⟩
 ·have hne:(((ns.length:Nat):Int) != ((xs.length:Nat):Int))=true:=by rw [bne_iff_ne];omega
  have HV:=Lib.hid (show timesQ ns xs=([],2) from if_neg heq)
  clear heq
  go_enter Tryz.func56,Tryz.ntmps56
  simp only [B_mk]
  go_wp2_with fail
  go_ret2
  exact ⟨ret_pair HV.out,Below.refl _ _⟩
end Go.Proofs.YtmppmdmekomjbaaGreatDoor

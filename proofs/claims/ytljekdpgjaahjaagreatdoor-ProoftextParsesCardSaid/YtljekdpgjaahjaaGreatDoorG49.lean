/- The reference of ratio: digits, halves, Right. (Printed by wip/rref.py.) -/
import Derived.Test.YtljekdpgjaahjaaGreatDoorG47
import Derived.Test.YtljekdpgjaahjaaGreatDoorG13
import Derived.Test.YtljekdpgjaahjaaGreatDoorG7
import Derived.Deep.QuietTactic
import Derived.BigQuiet
import Derived.Test.YtljekdpgjaahjaaGreatDoorG46
namespace Go.Proofs.YtljekdpgjaahjaaGreatDoor
open Go.RowKit Num
set_option linter.unusedVariables false
attribute [local go_sem] B_size B_get B_toList B_mk B_extract B_append
attribute [local go_sem high] run_max2
theorem rqdigits_any (l:List UInt8) (w:World) (hs:l.length≤maxLen) :
  Calls Tryz.prog 99 #[.string (B l)] w fun e w'=>e=.returned (.int .i64 ((mag l).length:Int))∧w'=w:=by
 unfold maxLen at hs
 cases hn:neg? l
 ·have h1:=neg_not hn
  rw [h1.1]
  by_cases h0:l=[]
  ·subst h0
   clear h1 hn
   go_enter Tryz.func99,Tryz.ntmps99
   go_wp2_with fail
   go_ret
   exact ⟨rfl,rfl⟩
  ·have hp:0<l.length:=List.length_pos_iff.2 h0
   have h45:(((at8 l 0).toNat:Int) == 45)=false:=by
    have:=h1.2 hp
    rw [beq_eq_false_iff_ne];intro e;exact this (UInt8.toNat_inj.1 (by simp;omega))
   clear h0 h1 hn
   go_enter Tryz.func99,Tryz.ntmps99
   go_wp2_with fail
   go_ret
   exact ⟨rfl,rfl⟩
 ·have h1:=neg_at hn
  have hp:=h1.2.1
  have h45:(((at8 l 0).toNat:Int) == 45)=true:=by rw [h1.1];rfl
  have HM:=Lib.hid (show ((l.length:Int) - 1)=((mag l).length:Int) by rw [h1.2.2,List.length_drop];omega)
  clear h1 hn
  go_enter Tryz.func99,Tryz.ntmps99
  go_wp2_with fail
  go_ret
  exact ⟨ret_int HM.out,rfl⟩
theorem half_found {l:Str} {k:Nat} (h:hasS (l.take k)=false) (hk:k<l.length) (hc:at8 l k=47):hasS l=true∧numT l=l.take k∧denT l=l.drop (k+1):=by
 have hs:l=l.take k ++ 47 :: l.drop (k+1):=by
  have:=List.take_append_drop k l
  rw [List.drop_eq_getElem_cons hk,← at8_eq l k hk,hc] at this
  exact this.symm
 have hno:∀ c ∈ l.take k,c≠47:=by
  intro c hc2 e
  unfold hasS at h
  rw [List.any_eq_false] at h
  have:=h c hc2
  rw [e] at this;simp at this
 have h1:hasS l=true:=by rw [hs];exact hasS_mid _ _
 have h2:=takeWhile_no hno (l.drop (k+1))
 rw [← hs] at h2
 refine ⟨h1,?_,?_⟩
 ·unfold numT preS;rw [if_pos h1,h2.1]
 ·unfold denT postS;rw [if_pos h1,h2.2];rfl
theorem half_step {l:Str} {k:Nat} (h:hasS (l.take k)=false) (hk:k<l.length) (hc:at8 l k≠47):hasS (l.take (k+1))=false:=by
 rw [List.take_succ_eq_append_getElem hk]
 unfold hasS at h ⊢
 rw [List.any_append,h]
 rw [at8_eq l k hk] at hc
 simpa using hc
theorem ret_ssb {a b a' b':List UInt8} {c c':Bool} (h:a=a') (h1:b=b') (h2:c=c'):Ending.returned (.tuple #[.string (B a),.string (B b),.bool c])=.returned (.tuple #[.string (B a'),.string (B b'),.bool c']):=by rw [h,h1,h2]
theorem rhalves_any (l:List UInt8) (w:World) (hl:l.length≤1000000) :
  Calls Tryz.prog 96 #[.string (B l)] w fun e w'=>e=.returned (.tuple #[.string (B (numT l)),.string (B (denT l)),.bool (hasS l)])∧Below w.heap.size w w':=by
 go_enter Tryz.func96,Tryz.ntmps96
 simp only [B_mk]
 go_wp2_with fail
 go_loop [5] (fun i=>∃ k:Nat,k≤l.length∧i=.int .i64 k∧hasS (l.take k)=false) (fun i=>l.length - (intOf i).toNat)
 case atStart=>exact ⟨0,by omega,rfl,rfl⟩
 case round =>
  obtain ⟨k,hk,rfl,hno⟩:=hrel
  have HNO:=Lib.hid hno
  clear hno
  by_cases hlt:k<l.length
  ·by_cases hc:at8 l k=47
   ·have hc':(((at8 l k).toNat:Int) == 47)=true:=by rw [hc];rfl
    have HF:=Lib.hid (half_found HNO.out hlt hc)
    clear hc
    have hkl:k+1≤l.length:=hlt
    go_wp2_with fail
    go_quiet (fail)
    go_wp2_with fail
    go_ret3
    exact ⟨ret_ssb (by rw [HF.out.2.1]) (by rw [HF.out.2.2]) HF.out.1.symm,(below_drewN (Below.refl _ _) _)⟩
   ·have hc':(((at8 l k).toNat:Int) == 47)=false:=by
     rw [beq_eq_false_iff_ne];intro e;exact hc (UInt8.toNat_inj.1 (by simp;omega))
    have HS:=Lib.hid (half_step HNO.out hlt hc)
    clear hc
    go_wp2_with fail
    go_round
    case rel=>exact ⟨k+1,by omega,by go_num,HS.out⟩
    case measure=>simp [intOf];omega
  ·obtain rfl:k=l.length:=by omega
   have HF:=Lib.hid (show hasS l=false by have:=HNO.out;rwa [List.take_of_length_le (Nat.le_refl _)] at this)
   have HN:=Lib.hid (show numT l=l∧denT l=[49] by unfold numT denT;rw [HF.out];exact ⟨rfl,rfl⟩)
   go_wp2_with fail
   go_ret3
   exact ⟨ret_ssb HN.out.1.symm HN.out.2.symm HF.out.symm,Below.refl _ _⟩
theorem rq_no5 {l:Str} (h:right (denT l)=false):rightQ l=false:=by
 cases hh:hasS l
 ·rw [rq_den hh] at h;exact absurd h (by decide)
 ·exact rq_no4 hh (.inl h)
theorem rabs_str {l:Str} (h1:rightI l=true) (h2:(mag l).length≤4096):absIS l=mag l∧errI l l=0:=by
 have he:errI l l=0:=errI_zero.2 ⟨h1,h1,h2,h2⟩
 exact ⟨by rw [absIS,if_pos he,abs_valI,decI_nat,← dec_mag h1],he⟩
set_option maxHeartbeats 2000000 in
theorem rrq_any (l:List UInt8) (w:World) (hl:l.length≤1000000) :
  Calls Tryz.prog 67 #[.string (B l)] w fun e w'=>e=.returned (.bool (rightQ l))∧Below w.heap.size w w':=by
 have hln:=numT_len l
 have hld:=denT_len l
 have HSP:=Lib.hid (rhalves_any l w hl)
 have HR1:=Lib.hid (fun w=>wright_ref_any (numT l) w (maxLen_le (by omega)))
 have HN:=Lib.hid (fun w=>ref_right_any (denT l) w (maxLen_le (by omega)))
 have HD1:=Lib.hid (fun w=>rqdigits_any (numT l) w (maxLen_le (by omega)))
 have HD2:=Lib.hid (fun w=>rqdigits_any (denT l) w (maxLen_le (by omega)))
 have hmn:=mag_length (numT l)
 have hmd:=mag_length (denT l)
 have HAB:=Lib.hid (fun w=>wrabs_any (numT l) w (by omega))
 have HG:=Lib.hid (fun w=>rgcd_any (mag (numT l)) (denT l) w (maxLen_le (by omega)) (maxLen_le (by omega)))
 cases h1:rightI (numT l)
 ·have HR:=Lib.hid (rq_no1 h1)
  go_enter Tryz.func67,Tryz.ntmps67
  simp only [B_mk]
  go_wp2_with fail
  refine HSP.out.mono ?_;rintro e wh ⟨rfl,hbh⟩
  go_wp2_with fail
  refine (HR1.out wh).mono ?_;rintro e w' ⟨rfl,h⟩;obtain rfl:=h.symm
  go_wp2_with fail
  go_ret
  exact ⟨ret_bool HR.out.symm,hbh⟩
 cases h5:right (denT l)
 ·have HR:=Lib.hid (rq_no5 h5)
  go_enter Tryz.func67,Tryz.ntmps67
  simp only [B_mk]
  go_wp2_with fail
  refine HSP.out.mono ?_;rintro e wh ⟨rfl,hbh⟩
  go_wp2_with fail
  refine (HR1.out wh).mono ?_;rintro e w' ⟨rfl,h⟩;obtain rfl:=h.symm
  go_wp2_with fail
  refine (HN.out wh).mono ?_;rintro e w' ⟨rfl,h⟩;obtain rfl:=h.symm
  go_wp2_with fail
  go_ret
  exact ⟨ret_bool HR.out.symm,hbh⟩
 by_cases h2:4096<(mag (numT l)).length
 ·have h2':(4096:Int)<((mag (numT l)).length:Int):=by omega
  have HR:=Lib.hid (rq_no2 h2)
  go_enter Tryz.func67,Tryz.ntmps67
  simp only [B_mk]
  go_wp2_with fail
  refine HSP.out.mono ?_;rintro e wh ⟨rfl,hbh⟩
  go_wp2_with fail
  refine (HR1.out wh).mono ?_;rintro e w' ⟨rfl,h⟩;obtain rfl:=h.symm
  go_wp2_with fail
  refine (HN.out wh).mono ?_;rintro e w' ⟨rfl,h⟩;obtain rfl:=h.symm
  go_wp2_with fail
  refine (HD1.out wh).mono ?_;rintro e w' ⟨rfl,h⟩;obtain rfl:=h.symm
  go_wp2_with fail
  go_ret
  exact ⟨ret_bool HR.out.symm,hbh⟩
 have h2':¬ (4096:Int)<((mag (numT l)).length:Int):=by omega
 by_cases h3:4096<(mag (denT l)).length
 ·have h3':(4096:Int)<((mag (denT l)).length:Int):=by omega
  have HR:=Lib.hid (rq_no3 h3)
  go_enter Tryz.func67,Tryz.ntmps67
  simp only [B_mk]
  go_wp2_with fail
  refine HSP.out.mono ?_;rintro e wh ⟨rfl,hbh⟩
  go_wp2_with fail
  refine (HR1.out wh).mono ?_;rintro e w' ⟨rfl,h⟩;obtain rfl:=h.symm
  go_wp2_with fail
  refine (HN.out wh).mono ?_;rintro e w' ⟨rfl,h⟩;obtain rfl:=h.symm
  go_wp2_with fail
  refine (HD1.out wh).mono ?_;rintro e w' ⟨rfl,h⟩;obtain rfl:=h.symm
  go_wp2_with fail
  refine (HD2.out wh).mono ?_;rintro e w' ⟨rfl,h⟩;obtain rfl:=h.symm
  go_wp2_with fail
  go_ret
  exact ⟨ret_bool HR.out.symm,hbh⟩
 have h3':¬ (4096:Int)<((mag (denT l)).length:Int):=by omega
 cases h4:hasS l
 ·have HR:=Lib.hid (rq_yes1 h1 (by omega) h4)
  go_enter Tryz.func67,Tryz.ntmps67
  simp only [B_mk]
  go_wp2_with fail
  refine HSP.out.mono ?_;rintro e wh ⟨rfl,hbh⟩
  go_wp2_with fail
  refine (HR1.out wh).mono ?_;rintro e w' ⟨rfl,h⟩;obtain rfl:=h.symm
  go_wp2_with fail
  refine (HN.out wh).mono ?_;rintro e w' ⟨rfl,h⟩;obtain rfl:=h.symm
  go_wp2_with fail
  refine (HD1.out wh).mono ?_;rintro e w' ⟨rfl,h⟩;obtain rfl:=h.symm
  go_wp2_with fail
  refine (HD2.out wh).mono ?_;rintro e w' ⟨rfl,h⟩;obtain rfl:=h.symm
  go_wp2_with fail
  go_ret
  exact ⟨ret_bool HR.out.symm,hbh⟩
 by_cases h8:numT l=[48]
 ·have h8':(numT l == [48])=true:=by simpa using h8
  have HR:=Lib.hid (rq_no4 h4 (.inr (.inr (.inr h8))))
  clear h8
  go_enter Tryz.func67,Tryz.ntmps67
  simp only [B_mk]
  go_wp2_with fail
  refine HSP.out.mono ?_;rintro e wh ⟨rfl,hbh⟩
  go_wp2_with fail
  refine (HR1.out wh).mono ?_;rintro e w' ⟨rfl,h⟩;obtain rfl:=h.symm
  go_wp2_with fail
  refine (HN.out wh).mono ?_;rintro e w' ⟨rfl,h⟩;obtain rfl:=h.symm
  go_wp2_with fail
  refine (HD1.out wh).mono ?_;rintro e w' ⟨rfl,h⟩;obtain rfl:=h.symm
  go_wp2_with fail
  refine (HD2.out wh).mono ?_;rintro e w' ⟨rfl,h⟩;obtain rfl:=h.symm
  go_wp2_with fail
  go_ret
  exact ⟨ret_bool HR.out.symm,hbh⟩
 have h8':(numT l == [48])=false:=by simpa using h8
 by_cases h6:denT l=[48]
 ·have h6':(denT l == [48])=true:=by simpa using h6
  have HR:=Lib.hid (rq_no4 h4 (.inr (.inl h6)))
  clear h6 h8
  go_enter Tryz.func67,Tryz.ntmps67
  simp only [B_mk]
  go_wp2_with fail
  refine HSP.out.mono ?_;rintro e wh ⟨rfl,hbh⟩
  go_wp2_with fail
  refine (HR1.out wh).mono ?_;rintro e w' ⟨rfl,h⟩;obtain rfl:=h.symm
  go_wp2_with fail
  refine (HN.out wh).mono ?_;rintro e w' ⟨rfl,h⟩;obtain rfl:=h.symm
  go_wp2_with fail
  refine (HD1.out wh).mono ?_;rintro e w' ⟨rfl,h⟩;obtain rfl:=h.symm
  go_wp2_with fail
  refine (HD2.out wh).mono ?_;rintro e w' ⟨rfl,h⟩;obtain rfl:=h.symm
  go_wp2_with fail
  go_ret
  exact ⟨ret_bool HR.out.symm,hbh⟩
 have h6':(denT l == [48])=false:=by simpa using h6
 by_cases h7:denT l=[49]
 ·have h7':(denT l == [49])=true:=by simpa using h7
  have HR:=Lib.hid (rq_no4 h4 (.inr (.inr (.inl h7))))
  clear h7 h6 h8
  go_enter Tryz.func67,Tryz.ntmps67
  simp only [B_mk]
  go_wp2_with fail
  refine HSP.out.mono ?_;rintro e wh ⟨rfl,hbh⟩
  go_wp2_with fail
  refine (HR1.out wh).mono ?_;rintro e w' ⟨rfl,h⟩;obtain rfl:=h.symm
  go_wp2_with fail
  refine (HN.out wh).mono ?_;rintro e w' ⟨rfl,h⟩;obtain rfl:=h.symm
  go_wp2_with fail
  refine (HD1.out wh).mono ?_;rintro e w' ⟨rfl,h⟩;obtain rfl:=h.symm
  go_wp2_with fail
  refine (HD2.out wh).mono ?_;rintro e w' ⟨rfl,h⟩;obtain rfl:=h.symm
  go_wp2_with fail
  go_ret
  exact ⟨ret_bool HR.out.symm,hbh⟩
 have h7':(denT l == [49])=false:=by simpa using h7
 have hmd2:=mag_right h5
 have HR:=Lib.hid (rq_gcd h1 (by omega) h4 h5 (by rw [← hmd2];omega) h6 h7 h8)
 have hv0:0<val (denT l):=by
  rcases Nat.eq_zero_or_pos (val (denT l)) with h | h
  ·exfalso;apply h6;rw [← dec_val h5,h,dec_zero]
  ·exact h
 have HABS:=Lib.hid (rabs_str h1 (by omega))
 have HGD:=Lib.hid (gcd_dec (right_mag h1) h5 (by omega) (by rw [← hmd2];omega) hv0)
 clear hmd2 h6 h7 h8
 by_cases hg:Nat.gcd (val (mag (numT l))) (val (denT l))=1
 ·have hg':(dec (Nat.gcd (val (mag (numT l))) (val (denT l))) == [49])=true:=by rw [hg,dec_one];rfl
  have HR2:=Lib.hid (show rightQ l=true by rw [HR.out];simpa using hg)
  clear HR hg
  have HR:=HR2
  go_enter Tryz.func67,Tryz.ntmps67
  simp only [B_mk]
  go_wp2_with fail
  refine HSP.out.mono ?_;rintro e wh ⟨rfl,hbh⟩
  go_wp2_with fail
  refine (HR1.out wh).mono ?_;rintro e w' ⟨rfl,h⟩;obtain rfl:=h.symm
  go_wp2_with fail
  refine (HN.out wh).mono ?_;rintro e w' ⟨rfl,h⟩;obtain rfl:=h.symm
  go_wp2_with fail
  refine (HD1.out wh).mono ?_;rintro e w' ⟨rfl,h⟩;obtain rfl:=h.symm
  go_wp2_with fail
  refine (HD2.out wh).mono ?_;rintro e w' ⟨rfl,h⟩;obtain rfl:=h.symm
  go_wp2_with fail
  refine (HAB.out wh).mono ?_
  rw [HABS.out.1,HABS.out.2]
  rintro e w1 ⟨rfl,hb1⟩
  go_wp2_with fail
  refine (HG.out w1).mono ?_
  rw [HGD.out.1,HGD.out.2]
  rintro e w' ⟨rfl,h⟩;obtain rfl:=h.symm
  go_wp2_with fail
  go_ret
  exact ⟨ret_bool HR.out.symm,hbh.trans (hb1.mono hbh.size)⟩
 ·have hg':(dec (Nat.gcd (val (mag (numT l))) (val (denT l))) == [49])=false:=by
   have:dec (Nat.gcd (val (mag (numT l))) (val (denT l)))≠[49]:=fun e=>hg (dec_eq_one.1 e)
   simpa using this
  have HR2:=Lib.hid (show rightQ l=false by rw [HR.out];simpa using hg)
  clear HR hg
  have HR:=HR2
  go_enter Tryz.func67,Tryz.ntmps67
  simp only [B_mk]
  go_wp2_with fail
  refine HSP.out.mono ?_;rintro e wh ⟨rfl,hbh⟩
  go_wp2_with fail
  refine (HR1.out wh).mono ?_;rintro e w' ⟨rfl,h⟩;obtain rfl:=h.symm
  go_wp2_with fail
  refine (HN.out wh).mono ?_;rintro e w' ⟨rfl,h⟩;obtain rfl:=h.symm
  go_wp2_with fail
  refine (HD1.out wh).mono ?_;rintro e w' ⟨rfl,h⟩;obtain rfl:=h.symm
  go_wp2_with fail
  refine (HD2.out wh).mono ?_;rintro e w' ⟨rfl,h⟩;obtain rfl:=h.symm
  go_wp2_with fail
  refine (HAB.out wh).mono ?_
  rw [HABS.out.1,HABS.out.2]
  rintro e w1 ⟨rfl,hb1⟩
  go_wp2_with fail
  refine (HG.out w1).mono ?_
  rw [HGD.out.1,HGD.out.2]
  rintro e w' ⟨rfl,h⟩;obtain rfl:=h.symm
  go_wp2_with fail
  go_ret
  exact ⟨ret_bool HR.out.symm,hbh.trans (hb1.mono hbh.size)⟩
theorem wrabsq_any (x:Int) (w:World) (hx:dl x≤4096) :
  Calls Tryz.prog 100 #[.string (B (decI x))] w fun e w'=>e=.returned (.tuple #[.string (B (dec x.natAbs)),.int .i64 0])∧Below w.heap.size w w':=by
 have hl:=dl_len x
 have he:=errI_dec (x:=x) (y:=x) hx hx
 have h:=wrabs_any (decI x) w (by omega)
 have h2:absIS (decI x)=dec x.natAbs:=by unfold absIS;rw [if_pos he,valI_decI,decI_nat]
 rw [h2,he] at h
 exact h
end Go.Proofs.YtljekdpgjaahjaaGreatDoor
namespace Go.Proofs.YtljekdpgjaahjaaGreatDoor
open Go.RowKit Num
set_option linter.unusedVariables false
attribute [local go_sem] B_size B_get B_toList B_mk B_extract B_append
attribute [local go_sem high] run_max2
theorem row_kept {w w1 w2:World} {o:Obj} (h1:Below (w.alloc o).heap.size (w.alloc o) w1) (h2:Below w1.heap.size w1 w2):w2.heap[w.heap.size]? = some o:=by
 have hs:w.heap.size<(w.alloc o).heap.size:=by simp
 rw [h2.block _ (Nat.lt_of_lt_of_le hs h1.size),h1.block _ hs]
 show (w.heap.push o)[w.heap.size]? = _
 simp
theorem cell_set_off {w:World} {b i j:Nat} {v:Value} (h:i≠j):(w.setCell ⟨b,i,none⟩ v).cell? ⟨b,j,none⟩=w.cell? ⟨b,j,none⟩ :=
 World.cell?_setCell_other _ _ _ _ (by intro e;injection e with _ e _;exact h e)
attribute [local go_sem] cell_set_off
theorem row_cells {w:World} {g:Nat} {x y u v:Value} {t:TypeId} (h:w.heap[g]? = some (.cells #[x,y,u,v] t)) :
  (w.cell? ⟨g,0,none⟩=some x∧w.cell? ⟨g,1,none⟩=some y∧w.cell? ⟨g,2,none⟩=some u∧w.cell? ⟨g,3,none⟩=some v) ∧
  w.frozen? ⟨g,0,none⟩=false∧w.frozen? ⟨g,1,none⟩=false∧w.frozen? ⟨g,2,none⟩=false∧w.frozen? ⟨g,3,none⟩=false:=by
 refine ⟨⟨?_,?_,?_,?_⟩,?_,?_,?_,?_⟩
 ·rw [cell_of_row w g 0 _ _ _ h];rfl
 ·rw [cell_of_row w g 1 _ _ _ h];rfl
 ·rw [cell_of_row w g 2 _ _ _ h];rfl
 ·rw [cell_of_row w g 3 _ _ _ h];rfl
 all_goals (unfold World.frozen?;simp [h])
theorem row_set4 {w:World} {g:Nat} {x y u v a b c d:Value} {t:TypeId} (h:w.heap[g]? = some (.cells #[x,y,u,v] t)) :
  ((((w.setCell ⟨g,0,none⟩ a).setCell ⟨g,1,none⟩ b).setCell ⟨g,2,none⟩ c).setCell ⟨g,3,none⟩ d).heap[g]? = some (.cells #[a,b,c,d] t):=by
 have h1:=heap_setCell_same w g 0 _ t a h
 have h2:=heap_setCell_same _ g 1 _ t b h1
 have h3:=heap_setCell_same _ g 2 _ t c h2
 have h4:=heap_setCell_same _ g 3 _ t d h3
 exact h4
theorem res_yes {z:Int} (h:dl z≤4096):resIS z=decI z∧resIE z=0:=resIS_dec h
theorem res_no {z:Int} (h:¬ dl z≤4096):resIS z=[]∧resIE z=4:=⟨if_neg h,if_neg h⟩
end Go.Proofs.YtljekdpgjaahjaaGreatDoor

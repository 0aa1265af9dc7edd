/- The reference of ratio: digits, halves, Right. (Printed by wip/rref.py.) -/
import Derived.Test.YtmppmdmekomjbaaGreatDoorG47
import Derived.Test.YtmppmdmekomjbaaGreatDoorG13
import Derived.Test.YtmppmdmekomjbaaGreatDoorG7
import Derived.Deep.QuietTactic
import Derived.BigQuiet
import Derived.Test.YtmppmdmekomjbaaGreatDoorG46
namespace Go.Proofs.YtmppmdmekomjbaaGreatDoor
open Go.RowKit Num
set_option linter.unusedVariables false
attribute [local go_sem] B_size B_get B_toList B_mk B_extract B_append
attribute [local go_sem high] run_max2
theorem rqdigits_any (l:List UInt8) (w:World) (hs:l.length≤maxLen) :
  Calls Tryz.prog 76 #[.string (B l)] w fun e w'=>e=.returned (.int .i64 ((mag l).length:Int))∧w'=w:=by
 unfold maxLen at hs
 cases hn:neg? l
 ·have h1:=neg_not hn
  rw [h1.1]
  by_cases h0:l=[]
  ·subst h0
   clear h1 hn
   go_enter Tryz.func76,Tryz.ntmps76
   go_wp2_with fail
   go_ret
   exact ⟨rfl,rfl⟩
  ·have hp:0<l.length:=List.length_pos_iff.2 h0
   have h45:(((at8 l 0).toNat:Int) == 45)=false:=by
    have:=h1.2 hp
    rw [beq_eq_false_iff_ne];intro e;exact this (UInt8.toNat_inj.1 (by simp;omega))
   clear h0 h1 hn
   go_enter Tryz.func76,Tryz.ntmps76
   go_wp2_with fail
   go_ret
   exact ⟨rfl,rfl⟩
 ·have h1:=neg_at hn
  have hp:=h1.2.1
  have h45:(((at8 l 0).toNat:Int) == 45)=true:=by rw [h1.1];rfl
  have HM:=Lib.hid (show ((l.length:Int) - 1)=((mag l).length:Int) by rw [h1.2.2,List.length_drop];omega)
  clear h1 hn
  go_enter Tryz.func76,Tryz.ntmps76
  go_wp2_with fail
  go_ret
  exact ⟨ret_int HM.out,rfl⟩
theorem half_found {l:Str} {k:Nat} (h:hasS (l.take k)=false) (hk:k<l.length) (hc:at8 l k=47):hasS l=true∧numT l=l.take k∧denT l=l.drop (k+1):=by
 have hs:l=l.take k ++ 47 :: l.drop (k+1):=by
  have:=List.take_append_drop k l
  rw [List.drop_eq_getElem_cons hk,← at8_eq l k hk,hc] at this
  exact this.symm
 have hno:∀ c ∈ l.take k,c≠47:=by
  intro c hc2 e
  unfold hasS at h
  rw [List.any_eq_false] at h
  have:=h c hc2
  rw [e] at this;simp at this
 have h1:hasS l=true:=by rw [hs];exact hasS_mid _ _
 have h2:=takeWhile_no hno (l.drop (k+1))
 rw [← hs] at h2
 refine ⟨h1,?_,?_⟩
 ·unfold numT preS;rw [if_pos h1,h2.1]
 ·unfold denT postS;rw [if_pos h1,h2.2];rfl
theorem half_step {l:Str} {k:Nat} (h:hasS (l.take k)=false) (hk:k<l.length) (hc:at8 l k≠47):hasS (l.take (k+1))=false:=by
 rw [List.take_succ_eq_append_getElem hk]
 unfold hasS at h ⊢
 rw [List.any_append,h]
 rw [at8_eq l k hk] at hc
 simpa using hc
theorem ret_ssb {a b a' b':List UInt8} {c c':Bool} (h:a=a') (h1:b=b') (h2:c=c'):Ending.returned (.tuple #[.string (B a),.string (B b),.bool c])=.returned (.tuple #[.string (B a'),.string (B b'),.bool c']):=by rw [h,h1,h2]
theorem rhalves_any (l:List UInt8) (w:World) (hl:l.length≤1000000) :
  Calls Tryz.prog 73 #[.string (B l)] w fun e w'=>e=.returned (.tuple #[.string (B (numT l)),.string (B (denT l)),.bool (hasS l)])∧Below w.heap.size w w':=by
 go_enter Tryz.func73,Tryz.ntmps73
 simp only [B_mk]
 go_wp2_with fail
 go_loop [5] (fun i=>∃ k:Nat,k≤l.length∧i=.int .i64 k∧hasS (l.take k)=false) (fun i=>l.length - (intOf i).toNat)
 case atStart=>exact ⟨0,by omega,rfl,rfl⟩
 case round =>
  obtain ⟨k,hk,rfl,hno⟩:=hrel
  have HNO:=Lib.hid hno
  clear hno
  by_cases hlt:k<l.length
  ·by_cases hc:at8 l k=47
   ·have hc':(((at8 l k).toNat:Int) == 47)=true:=by rw [hc];rfl
    have HF:=Lib.hid (half_found HNO.out hlt hc)
    clear hc
    have hkl:k+1≤l.length:=hlt
    go_wp2_with fail
    go_quiet (fail)
    go_wp2_with fail
    go_ret3
    exact ⟨ret_ssb (by rw [HF.out.2.1]) (by rw [HF.out.2.2]) HF.out.1.symm,(below_drewN (Below.refl _ _) _)⟩
   ·have hc':(((at8 l k).toNat:Int) == 47)=false:=by
     rw [beq_eq_false_iff_ne];intro e;exact hc (UInt8.toNat_inj.1 (by simp;omega))
    have HS:=Lib.hid (half_step HNO.out hlt hc)
    clear hc
    go_wp2_with fail
    go_round
    case rel=>exact ⟨k+1,by omega,by go_num,HS.out⟩
    case measure=>simp [intOf];omega
  ·obtain rfl:k=l.length:=by omega
   have HF:=Lib.hid (show hasS l=false by have:=HNO.out;rwa [List.take_of_length_le (Nat.le_refl _)] at this)
   have HN:=Lib.hid (show numT l=l∧denT l=[49] by unfold numT denT;rw [HF.out];exact ⟨rfl,rfl⟩)
   go_wp2_with fail
   go_ret3
   exact ⟨ret_ssb HN.out.1.symm HN.out.2.symm HF.out.symm,Below.refl _ _⟩
theorem rq_no5 {l:Str} (h:right (denT l)=false):rightQ l=false:=by
 cases hh:hasS l
 ·rw [rq_den hh] at h;exact absurd h (by decide)
 ·exact rq_no4 hh (.inl h)
theorem rabs_str {l:Str} (h1:rightI l=true) (h2:(mag l).length≤4096):absIS l=mag l∧errI l l=0:=by
 have he:errI l l=0:=errI_zero.2 ⟨h1,h1,h2,h2⟩
 exact ⟨by rw [absIS,if_pos he,abs_valI,decI_nat,← dec_mag h1],he⟩
set_option maxHeartbeats 2000000 in
theorem rrq_any (l:List UInt8) (w:World) (hl:l.length≤1000000) :
  Calls Tryz.prog 42 #[.string (B l)] w fun e w'=>e=.returned (.bool (rightQ l))∧Below w.heap.size w w':=by
 have hln:=numT_len l
 have hld:=denT_len l
 have HSP:=Lib.hid (rhalves_any l w hl)
 have HR1:=Lib.hid (fun w=>wright_ref_any (numT l) w (maxLen_le (by omega)))
 have HN:=Lib.hid (fun w=>ref_right_any (denT l) w (maxLen_le (by omega)))
 have HD1:=Lib.hid (fun w=>rqdigits_any (numT l) w (maxLen_le (by omega)))
 have HD2:=Lib.hid (fun w=>rqdigits_any (denT l) w (maxLen_le (by omega)))
 have hmn:=mag_length (numT l)
 have hmd:=mag_length (denT l)
 have HAB:=Lib.hid (fun w=>wrabs_any (numT l) w (by omega))
 have HG:=Lib.hid (fun w=>rgcd_any (mag (numT l)) (denT l) w (maxLen_le (by omega)) (maxLen_le (by omega)))
 cases h1:rightI (numT l)
 ·have HR:=Lib.hid (rq_no1 h1)
  go_enter Tryz.func42,Tryz.ntmps42
  simp only [B_mk]
  go_wp2_with fail
  refine HSP.out.mono ?_;rintro e wh ⟨rfl,hbh⟩
  go_wp2_with fail
  refine (HR1.out wh).mono ?_;rintro e w' ⟨rfl,h⟩;obtain rfl:=h.symm
  go_wp2_with fail
  go_ret
  exact ⟨ret_bool HR.out.symm,hbh⟩
 cases h5:right (denT l)
 ·have HR:=Lib.hid (rq_no5 h5)
  go_enter Tryz.func42,Tryz.ntmps42
  simp only [B_mk]
  go_wp2_with fail
  refine HSP.out.mono ?_;rintro e wh ⟨rfl,hbh⟩
  go_wp2_with fail
  refine (HR1.out wh).mono ?_;rintro e w' ⟨rfl,h⟩;obtain rfl:=h.symm
  go_wp2_with fail
  refine (HN.out wh).mono ?_;rintro e w' ⟨rfl,h⟩;obtain rfl:=h.symm
  go_wp2_with fail
  go_ret
  exact ⟨ret_bool HR.out.symm,hbh⟩
 by_cases h2:4096<(mag (numT l)).length
 ·have h2':(4096:Int)<((mag (numT l)).length:Int):=by omega
  have HR:=Lib.hid (rq_no2 h2)
  go_enter Tryz.func42,Tryz.ntmps42
  simp only [B_mk]
  go_wp2_with fail
  refine HSP.out.mono ?_;rintro e wh ⟨rfl,hbh⟩
  go_wp2_with fail
  refine (HR1.out wh).mono ?_;rintro e w' ⟨rfl,h⟩;obtain rfl:=h.symm
  go_wp2_with fail
  refine (HN.out wh).mono ?_;rintro e w' ⟨rfl,h⟩;obtain rfl:=h.symm
  go_wp2_with fail
  refine (HD1.out wh).mono ?_;rintro e w' ⟨rfl,h⟩;obtain rfl:=h.symm
  go_wp2_with fail
  go_ret
  exact ⟨ret_bool HR.out.symm,hbh⟩
 have h2':¬ (4096:Int)<((mag (numT l)).length:Int):=by omega
 by_cases h3:4096<(mag (denT l)).length
 ·have h3':(4096:Int)<((mag (denT l)).length:Int):=by omega
  have HR:=Lib.hid (rq_no3 h3)
  go_enter Tryz.func42,Tryz.ntmps42
  simp only [B_mk]
  go_wp2_with fail
  refine HSP.out.mono ?_;rintro e wh ⟨rfl,hbh⟩
  go_wp2_with fail
  refine (HR1.out wh).mono ?_;rintro e w' ⟨rfl,h⟩;obtain rfl:=h.symm
  go_wp2_with fail
  refine (HN.out wh).mono ?_;rintro e w' ⟨rfl,h⟩;obtain rfl:=h.symm
  go_wp2_with fail
  refine (HD1.out wh).mono ?_;rintro e w' ⟨rfl,h⟩;obtain rfl:=h.symm
  go_wp2_with fail
  refine (HD2.out wh).mono ?_;rintro e w' ⟨rfl,h⟩;obtain rfl:=h.symm
  go_wp2_with fail
  go_ret
  exact ⟨ret_bool HR.out.symm,hbh⟩
 have h3':¬ (4096:Int)<((mag (denT l)).length:Int):=by omega
 cases h4:hasS l
 ·have HR:=Lib.hid (rq_yes1 h1 (by omega) h4)
  go_enter Tryz.func42,Tryz.ntmps42
  simp only [B_mk]
  go_wp2_with fail
  refine HSP.out.mono ?_;rintro e wh ⟨rfl,hbh⟩
  go_wp2_with fail
  refine (HR1.out wh).mono ?_;rintro e w' ⟨rfl,h⟩;obtain rfl:=h.symm
  go_wp2_with fail
  refine (HN.out wh).mono ?_;rintro e w' ⟨rfl,h⟩;obtain rfl:=h.symm
  go_wp2_with fail
  refine (HD1.out wh).mono ?_;rintro e w' ⟨rfl,h⟩;obtain rfl:=h.symm
  go_wp2_with fail
  refine (HD2.out wh).mono ?_;rintro e w' ⟨rfl,h⟩;obtain rfl:=h.symm
  go_wp2_with fail
  go_ret
  exact ⟨ret_bool HR.out.symm,hbh⟩
 by_cases h8:numT l=[48]
 ·have h8':(numT l == [48])=true:=by simpa using h8
  have HR:=Lib.hid (rq_no4 h4 (.inr (.inr (.inr h8))))
  clear h8
  go_enter Tryz.func42,Tryz.ntmps42
  simp only [B_mk]
  go_wp2_with fail
  refine HSP.out.mono ?_;rintro e wh ⟨rfl,hbh⟩
  go_wp2_with fail
  refine (HR1.out wh).mono ?_;rintro e w' ⟨rfl,h⟩;obtain rfl:=h.symm
  go_wp2_with fail
  refine (HN.out wh).mono ?_;rintro e w' ⟨rfl,h⟩;obtain rfl:=h.symm
  go_wp2_with fail
  refine (HD1.out wh).mono ?_;rintro e w' ⟨rfl,h⟩;obtain rfl:=h.symm
  go_wp2_with fail
  refine (HD2.out wh).mono ?_;rintro e w' ⟨rfl,h⟩;obtain rfl:=h.symm
  go_wp2_with fail
  go_ret
  exact ⟨ret_bool HR.out.symm,hbh⟩
 have h8':(numT l == [48])=false:=by simpa using h8
 by_cases h6:denT l=[48]
 ·have h6':(denT l == [48])=true:=by simpa using h6
  have HR:=Lib.hid (rq_no4 h4 (.inr (.inl h6)))
  clear h6 h8
  go_enter Tryz.func42,Tryz.ntmps42
  simp only [B_mk]
  go_wp2_with fail
  refine HSP.out.mono ?_;rintro e wh ⟨rfl,hbh⟩
  go_wp2_with fail
  refine (HR1.out wh).mono ?_;rintro e w' ⟨rfl,h⟩;obtain rfl:=h.symm
  go_wp2_with fail
  refine (HN.out wh).mono ?_;rintro e w' ⟨rfl,h⟩;obtain rfl:=h.symm
  go_wp2_with fail
  refine (HD1.out wh).mono ?_;rintro e w' ⟨rfl,h⟩;obtain rfl:=h.symm
  go_wp2_with fail
  refine (HD2.out wh).mono ?_;rintro e w' ⟨rfl,h⟩;obtain rfl:=h.symm
  go_wp2_with fail
  go_ret
  exact ⟨ret_bool HR.out.symm,hbh⟩
 have h6':(denT l == [48])=false:=by simpa using h6
 by_cases h7:denT l=[49]
 ·have h7':(denT l == [49])=true:=by simpa using h7
  have HR:=Lib.hid (rq_no4 h4 (.inr (.inr (.inl h7))))
  clear h7 h6 h8
  go_enter Tryz.func42,Tryz.ntmps42
  simp only [B_mk]
  go_wp2_with fail
  refine HSP.out.mono ?_;rintro e wh ⟨rfl,hbh⟩
  go_wp2_with fail
  refine (HR1.out wh).mono ?_;rintro e w' ⟨rfl,h⟩;obtain rfl:=h.symm
  go_wp2_with fail
  refine (HN.out wh).mono ?_;rintro e w' ⟨rfl,h⟩;obtain rfl:=h.symm
  go_wp2_with fail
  refine (HD1.out wh).mono ?_;rintro e w' ⟨rfl,h⟩;obtain rfl:=h.symm
  go_wp2_with fail
  refine (HD2.out wh).mono ?_;rintro e w' ⟨rfl,h⟩;obtain rfl:=h.symm
  go_wp2_with fail
  go_ret
  exact ⟨ret_bool HR.out.symm,hbh⟩
 have h7':(denT l == [49])=false:=by simpa using h7
 have hmd2:=mag_right h5
 have HR:=Lib.hid (rq_gcd h1 (by omega) h4 h5 (by rw [← hmd2];omega) h6 h7 h8)
 have hv0:0<val (denT l):=by
  rcases Nat.eq_zero_or_pos (val (denT l)) with h | h
  ·exfalso;apply h6;rw [← dec_val h5,h,dec_zero]
  ·exact h
 have HABS:=Lib.hid (rabs_str h1 (by omega))
 have HGD:=Lib.hid (gcd_dec (right_mag h1) h5 (by omega) (by rw [← hmd2];omega) hv0)
 clear hmd2 h6 h7 h8
 by_cases hg:Nat.gcd (val (mag (numT l))) (val (denT l))=1
 ·have hg':(dec (Nat.gcd (val (mag (numT l))) (val (denT l))) == [49])=true:=by rw [hg,dec_one];rfl
  have HR2:=Lib.hid (show rightQ l=true by rw [HR.out];simpa using hg)
  clear HR hg
  have HR:=HR2
  go_enter Tryz.func42,Tryz.ntmps42
  simp only [B_mk]
  go_wp2_with fail
  refine HSP.out.mono ?_;rintro e wh ⟨rfl,hbh⟩
  go_wp2_with fail
  refine (HR1.out wh).mono ?_;rintro e w' ⟨rfl,h⟩;obtain rfl:=h.symm
  go_wp2_with fail
  refine (HN.out wh).mono ?_;rintro e w' ⟨rfl,h⟩;obtain rfl:=h.symm
  go_wp2_with fail
  refine (HD1.out wh).mono ?_;rintro e w' ⟨rfl,h⟩;obtain rfl:=h.symm
  go_wp2_with fail
  refine (HD2.out wh).mono ?_;rintro e w' ⟨rfl,h⟩;obtain rfl:=h.symm
  go_wp2_with fail
  refine (HAB.out wh).mono ?_
  rw [HABS.out.1,HABS.out.2]
  rintro e w1 ⟨rfl,hb1⟩
  go_wp2_with fail
  refine (HG.out w1).mono ?_
  rw [HGD.out.1,HGD.out.2]
  rintro e w' ⟨rfl,h⟩;obtain rfl:=h.symm
  go_wp2_with fail
  go_ret
  exact ⟨ret_bool HR.out.symm,hbh.trans (hb1.mono hbh.size)⟩
 ·have hg':(dec (Nat.gcd (val (mag (numT l))) (val (denT l))) == [49])=false:=by
   have:dec (Nat.gcd (val (mag (numT l))) (val (denT l)))≠[49]:=fun e=>hg (dec_eq_one.1 e)
   simpa using this
  have HR2:=Lib.hid (show rightQ l=false by rw [HR.out];simpa using hg)
  clear HR hg
  have HR:=HR2
  go_enter Tryz.func42,Tryz.ntmps42
  simp only [B_mk]
  go_wp2_with fail
  refine HSP.out.mono ?_;rintro e wh ⟨rfl,hbh⟩
  go_wp2_with fail
  refine (HR1.out wh).mono ?_;rintro e w' ⟨rfl,h⟩;obtain rfl:=h.symm
  go_wp2_with fail
  refine (HN.out wh).mono ?_;rintro e w' ⟨rfl,h⟩;obtain rfl:=h.symm
  go_wp2_with fail
  refine (HD1.out wh).mono ?_;rintro e w' ⟨rfl,h⟩;obtain rfl:=h.symm
  go_wp2_with fail
  refine (HD2.out wh).mono ?_;rintro e w' ⟨rfl,h⟩;obtain rfl:=h.symm
  go_wp2_with fail
  refine (HAB.out wh).mono ?_
  rw [HABS.out.1,HABS.out.2]
  rintro e w1 ⟨rfl,hb1⟩
  go_wp2_with fail
  refine (HG.out w1).mono ?_
  rw [HGD.out.1,HGD.out.2]
  rintro e w' ⟨rfl,h⟩;obtain rfl:=h.symm
  go_wp2_with fail
  go_ret
  exact ⟨ret_bool HR.out.symm,hbh.trans (hb1.mono hbh.size)⟩
theorem wrdivq_any (x:Int) (g:Nat) (w:World) (hx:dl x≤4096) (hg:(dec g).length≤4096) (h0:0<g) :
  Calls Tryz.prog 98 #[.string (B (decI x)),.string (B (dec g))] w fun e w'=>e=.returned (.tuple #[.string (B (decI (x / (g:Int)))),.string (B (decI (x % (g:Int)))),.int .i64 0])∧Below w.heap.size w w':=by
 have hl:=dl_len x
 rw [← decI_nat g]
 have he:=errI_dec (x:=x) (y:=(g:Int)) hx (by rw [dl_nat];exact hg)
 have h:=wrdiv_any (decI x) (decI (g:Int)) w (by omega) (by rw [decI_nat];omega)
 have hv:=divI_ok he (by rw [valI_decI];omega)
 rw [valI_decI,valI_decI,(qI_pos (show (0:Int)<g by omega)).1,(qI_pos (show (0:Int)<g by omega)).2] at hv
 rw [hv.1,hv.2.1,hv.2.2] at h
 exact h
theorem wrnegq_any (x:Int) (w:World) (hx:dl x≤4096) :
  Calls Tryz.prog 135 #[.string (B (decI x))] w fun e w'=>e=.returned (.tuple #[.string (B (decI (-x))),.int .i64 0])∧Below w.heap.size w w':=by
 have hl:=dl_len x
 have he:=errI_dec (x:=x) (y:=x) hx hx
 have h:=wrneg_any (decI x) w (by omega)
 have h2:negIS (decI x)=decI (-x):=by unfold negIS;rw [if_pos he,valI_decI]
 rw [h2,he] at h
 exact h
theorem wrabsq_any (x:Int) (w:World) (hx:dl x≤4096) :
  Calls Tryz.prog 77 #[.string (B (decI x))] w fun e w'=>e=.returned (.tuple #[.string (B (dec x.natAbs)),.int .i64 0])∧Below w.heap.size w w':=by
 have hl:=dl_len x
 have he:=errI_dec (x:=x) (y:=x) hx hx
 have h:=wrabs_any (decI x) w (by omega)
 have h2:absIS (decI x)=dec x.natAbs:=by unfold absIS;rw [if_pos he,valI_decI,decI_nat]
 rw [h2,he] at h
 exact h
set_option maxHeartbeats 2000000 in
set_option maxRecDepth 100000 in
theorem rreduced_any (x y:Int) (w:World) (hx:dl x≤4096) (hy:dl y≤4096) (h0:y≠0) :
  Calls Tryz.prog 101 #[.string (B (decI x)),.string (B (decI y))] w fun e w'=>e=.returned (.string (B (quoS x y)))∧Below w.heap.size w w':=by
 have hly:=dl_len y
 have hsg:signIS (decI y)=ordI y 0:=by rw [signIS,if_pos (rightI_decI _),valI_decI]
 have core:∀ (z:Int) (m:Nat),dl z≤4096→(dec m).length≤4096→0<m →
   ∃ g:Nat,(∀ w:World,Calls Tryz.prog 78 #[.string (B (dec z.natAbs)),.string (B (dec m))] w fun e w'=>e=.returned (.tuple #[.string (B (dec g)),.int .i64 0])∧w'=w) ∧
    (∀ w:World,Calls Tryz.prog 98 #[.string (B (decI z)),.string (B (dec g))] w fun e w'=>e=.returned (.tuple #[.string (B (decI (z / (g:Int)))),.string (B (decI (z % (g:Int)))),.int .i64 0])∧Below w.heap.size w w') ∧
    (∀ w:World,Calls Tryz.prog 98 #[.string (B (dec m)),.string (B (dec g))] w fun e w'=>e=.returned (.tuple #[.string (B (dec (m / g))),.string (B (decI (((m:Int) % (g:Int))))),.int .i64 0])∧Below w.heap.size w w') ∧
    lowS z m=ratS (z / (g:Int)) (m / g)∧(decI (z / (g:Int))).length≤4097∧(dec (m / g)).length≤4096:=by
  intro z m hz hm hm0
  have hgp:0<Nat.gcd z.natAbs m:=Nat.gcd_pos_of_pos_right _ hm0
  have hza:(dec z.natAbs).length≤4096:=hz
  have HGD:=gcd_dec (right_dec z.natAbs) (right_dec m) hza hm (by rw [val_dec];exact hm0)
  rw [val_dec,val_dec] at HGD
  have hgl:(dec (Nat.gcd z.natAbs m)).length≤4096:=Nat.le_trans (length_dec_mono (Nat.gcd_le_right _ hm0)) hm
  refine ⟨Nat.gcd z.natAbs m,fun w=>?_,fun w=>wrdivq_any z _ w hz hgl hgp,fun w=>?_,rfl,?_,Nat.le_trans (length_dec_mono (Nat.div_le_self _ _)) hm⟩
  ·have h:=rgcd_any (dec z.natAbs) (dec m) w (maxLen_le (by omega)) (maxLen_le (by omega))
   rw [HGD.1,HGD.2] at h;exact h
  ·have h:=wrdivq_any (m:Int) (Nat.gcd z.natAbs m) w (by rw [dl_nat];exact hm) hgl hgp
   rw [show ((m:Int) / (Nat.gcd z.natAbs m:Nat))=((m / Nat.gcd z.natAbs m:Nat):Int) from rfl,decI_nat,decI_nat] at h
   exact h
  ·have h1:=dl_len (z / (Nat.gcd z.natAbs m:Nat))
   have h2:dl (z / (Nat.gcd z.natAbs m:Nat))≤dl z:=dl_mono (Int.natAbs_ediv_le_natAbs _ _)
   omega
 by_cases hn:y<0
 ·have HS:=Lib.hid (show signIS (decI y) = -1 by rw [hsg];unfold ordI;rw [if_pos hn])
  have HQ:=Lib.hid (show quoS x y=lowS (-x) y.natAbs from if_pos hn)
  have HN:=Lib.hid (show decI (-y)=dec y.natAbs by rw [show -y=((y.natAbs:Nat):Int) by omega,decI_nat])
  obtain ⟨g,hG,hD1,hD2,hL,hl1,hl2⟩:=core (-x) y.natAbs (by rw [dl_neg];exact hx) hy (by omega)
  simp only [Int.natAbs_neg] at hG
  have HG:=Lib.hid hG
  have HD1:=Lib.hid hD1
  have HD2:=Lib.hid hD2
  have HL:=Lib.hid hL
  clear hG hD1 hD2 hL hsg hn h0 core
  by_cases h1:y.natAbs / g=1
  ·have hq1:(dec (y.natAbs / g) == [49])=true:=by rw [h1,dec_one];rfl
   have HR:=Lib.hid (show lowS (-x) y.natAbs=decI ((-x) / (g:Int)) by rw [HL.out];exact if_pos h1)
   clear h1
   go_enter Tryz.func101,Tryz.ntmps101
   simp only [B_mk]
   go_wp2_with fail
   refine (wrsign_any (decI y) w (by omega)).mono ?_;rw [HS.out];rintro e w' ⟨rfl,h⟩;obtain rfl:=h.symm
   go_wp2_with fail
   refine (wrnegq_any x w hx).mono ?_
   rintro e w1 ⟨rfl,hb1⟩
   go_wp2_with fail
   refine (wrnegq_any y w1 hy).mono ?_
   rw [HN.out]
   rintro e w2 ⟨rfl,hb2⟩
   have a2:=hb1.trans (hb2.mono hb1.size)
   go_wp2_with fail
   refine (wrabsq_any (-x) w2 (by rw [dl_neg];exact hx)).mono ?_
   rintro e w3 ⟨rfl,hb3⟩
   have a3:=a2.trans (hb3.mono a2.size)
   go_wp2_with fail
   refine (HG.out w3).mono ?_;rintro e w' ⟨rfl,h⟩;obtain rfl:=h.symm
   go_wp2_with fail
   refine (HD1.out w3).mono ?_
   rintro e w4 ⟨rfl,hb4⟩
   have a4:=a3.trans (hb4.mono a3.size)
   go_wp2_with fail
   refine (HD2.out w4).mono ?_
   rintro e w5 ⟨rfl,hb5⟩
   have a5:=a4.trans (hb5.mono a4.size)
   go_wp2_with fail
   go_ret
   exact ⟨ret_str (by rw [HQ.out,HR.out]),a5⟩
  ·have hq1:(dec (y.natAbs / g) == [49])=false:=by
    have:dec (y.natAbs / g)≠[49]:=fun e=>h1 (dec_eq_one.1 e)
    simpa using this
   have HR:=Lib.hid (show lowS (-x) y.natAbs=decI ((-x) / (g:Int)) ++ 47 :: dec (y.natAbs / g) by rw [HL.out];exact if_neg h1)
   clear h1
   go_enter Tryz.func101,Tryz.ntmps101
   simp only [B_mk]
   go_wp2_with fail
   refine (wrsign_any (decI y) w (by omega)).mono ?_;rw [HS.out];rintro e w' ⟨rfl,h⟩;obtain rfl:=h.symm
   go_wp2_with fail
   refine (wrnegq_any x w hx).mono ?_
   rintro e w1 ⟨rfl,hb1⟩
   go_wp2_with fail
   refine (wrnegq_any y w1 hy).mono ?_
   rw [HN.out]
   rintro e w2 ⟨rfl,hb2⟩
   have a2:=hb1.trans (hb2.mono hb1.size)
   go_wp2_with fail
   refine (wrabsq_any (-x) w2 (by rw [dl_neg];exact hx)).mono ?_
   rintro e w3 ⟨rfl,hb3⟩
   have a3:=a2.trans (hb3.mono a2.size)
   go_wp2_with fail
   refine (HG.out w3).mono ?_;rintro e w' ⟨rfl,h⟩;obtain rfl:=h.symm
   go_wp2_with fail
   refine (HD1.out w3).mono ?_
   rintro e w4 ⟨rfl,hb4⟩
   have a4:=a3.trans (hb4.mono a3.size)
   go_wp2_with fail
   refine (HD2.out w4).mono ?_
   rintro e w5 ⟨rfl,hb5⟩
   have a5:=a4.trans (hb5.mono a4.size)
   go_wp2_with fail
   go_ret
   exact ⟨ret_str (by rw [HQ.out,HR.out]),a5⟩
 ·have HS:=Lib.hid (show signIS (dec y.natAbs)=1 by rw [← decI_nat,show ((y.natAbs:Nat):Int)=y by omega,hsg];unfold ordI;rw [if_neg hn,if_pos (by omega)])
  have HQ:=Lib.hid (show quoS x y=lowS x y.natAbs from if_neg hn)
  have HN:=Lib.hid (show decI y=dec y.natAbs by conv=>lhs;rw [show y=((y.natAbs:Nat):Int) by omega];rw [decI_nat])
  obtain ⟨g,hG,hD1,hD2,hL,hl1,hl2⟩:=core x y.natAbs hx hy (by omega)
  have HG:=Lib.hid hG
  have HD1:=Lib.hid hD1
  have HD2:=Lib.hid hD2
  have HL:=Lib.hid hL
  clear hG hD1 hD2 hL hsg hn h0 core
  by_cases h1:y.natAbs / g=1
  ·have hq1:(dec (y.natAbs / g) == [49])=true:=by rw [h1,dec_one];rfl
   have HR:=Lib.hid (show lowS x y.natAbs=decI (x / (g:Int)) by rw [HL.out];exact if_pos h1)
   clear h1
   rw [HN.out]
   go_enter Tryz.func101,Tryz.ntmps101
   simp only [B_mk]
   go_wp2_with fail
   refine (wrsign_any (dec y.natAbs) w (by have:(dec y.natAbs).length≤4096:=hy;omega)).mono ?_;rw [HS.out];rintro e w' ⟨rfl,h⟩;obtain rfl:=h.symm
   go_wp2_with fail
   refine (wrabsq_any x w hx).mono ?_
   rintro e w3 ⟨rfl,hb3⟩
   have a3:=hb3
   go_wp2_with fail
   refine (HG.out w3).mono ?_;rintro e w' ⟨rfl,h⟩;obtain rfl:=h.symm
   go_wp2_with fail
   refine (HD1.out w3).mono ?_
   rintro e w4 ⟨rfl,hb4⟩
   have a4:=a3.trans (hb4.mono a3.size)
   go_wp2_with fail
   refine (HD2.out w4).mono ?_
   rintro e w5 ⟨rfl,hb5⟩
   have a5:=a4.trans (hb5.mono a4.size)
   go_wp2_with fail
   go_ret
   exact ⟨ret_str (by rw [HQ.out,HR.out]),a5⟩
  ·have hq1:(dec (y.natAbs / g) == [49])=false:=by
    have:dec (y.natAbs / g)≠[49]:=fun e=>h1 (dec_eq_one.1 e)
    simpa using this
   have HR:=Lib.hid (show lowS x y.natAbs=decI (x / (g:Int)) ++ 47 :: dec (y.natAbs / g) by rw [HL.out];exact if_neg h1)
   clear h1
   rw [HN.out]
   go_enter Tryz.func101,Tryz.ntmps101
   simp only [B_mk]
   go_wp2_with fail
   refine (wrsign_any (dec y.natAbs) w (by have:(dec y.natAbs).length≤4096:=hy;omega)).mono ?_;rw [HS.out];rintro e w' ⟨rfl,h⟩;obtain rfl:=h.symm
   go_wp2_with fail
   refine (wrabsq_any x w hx).mono ?_
   rintro e w3 ⟨rfl,hb3⟩
   have a3:=hb3
   go_wp2_with fail
   refine (HG.out w3).mono ?_;rintro e w' ⟨rfl,h⟩;obtain rfl:=h.symm
   go_wp2_with fail
   refine (HD1.out w3).mono ?_
   rintro e w4 ⟨rfl,hb4⟩
   have a4:=a3.trans (hb4.mono a3.size)
   go_wp2_with fail
   refine (HD2.out w4).mono ?_
   rintro e w5 ⟨rfl,hb5⟩
   have a5:=a4.trans (hb5.mono a4.size)
   go_wp2_with fail
   go_ret
   exact ⟨ret_str (by rw [HQ.out,HR.out]),a5⟩
end Go.Proofs.YtmppmdmekomjbaaGreatDoor
namespace Go.Proofs.YtmppmdmekomjbaaGreatDoor
open Go.RowKit Num
set_option linter.unusedVariables false
attribute [local go_sem] B_size B_get B_toList B_mk B_extract B_append
attribute [local go_sem high] run_max2
theorem rrparts_any (l:List UInt8) (w:World) (hl:l.length≤1000000) :
  Calls Tryz.prog 97 #[.string (B l)] w fun e w'=>e=.returned (.tuple #[.string (B (prtN l)),.string (B (prtD l)),.int .i64 (rightE l)])∧Below w.heap.size w w':=by
 have HR:=Lib.hid (rrq_any l w hl)
 have HH:=Lib.hid (fun w=>rhalves_any l w hl)
 cases h1:rightQ l
 ·have HE:=Lib.hid (show prtN l=[]∧prtD l=[]∧rightE l=3 by unfold prtN prtD rightE;rw [h1];exact ⟨rfl,rfl,rfl⟩)
  rw [h1] at HR
  go_enter Tryz.func97,Tryz.ntmps97
  simp only [B_mk]
  go_wp2_with fail
  refine HR.out.mono ?_
  rintro e w1 ⟨rfl,hb1⟩
  go_wp2_with fail
  go_ret3
  exact ⟨by rw [HE.out.1,HE.out.2.1,HE.out.2.2];rfl,hb1⟩
 ·have HE:=Lib.hid (show prtN l=numT l∧prtD l=denT l∧rightE l=0 by unfold prtN prtD rightE;rw [h1];exact ⟨rfl,rfl,rfl⟩)
  rw [h1] at HR
  go_enter Tryz.func97,Tryz.ntmps97
  simp only [B_mk]
  go_wp2_with fail
  refine HR.out.mono ?_
  rintro e w1 ⟨rfl,hb1⟩
  go_wp2_with fail
  refine (HH.out w1).mono ?_
  rintro e w2 ⟨rfl,hb2⟩
  go_wp2_with fail
  go_ret3
  exact ⟨by rw [HE.out.1,HE.out.2.1,HE.out.2.2];rfl,hb1.trans (hb2.mono hb1.size)⟩
theorem row_kept {w w1 w2:World} {o:Obj} (h1:Below (w.alloc o).heap.size (w.alloc o) w1) (h2:Below w1.heap.size w1 w2):w2.heap[w.heap.size]? = some o:=by
 have hs:w.heap.size<(w.alloc o).heap.size:=by simp
 rw [h2.block _ (Nat.lt_of_lt_of_le hs h1.size),h1.block _ hs]
 show (w.heap.push o)[w.heap.size]? = _
 simp
theorem cell_set_off {w:World} {b i j:Nat} {v:Value} (h:i≠j):(w.setCell ⟨b,i,none⟩ v).cell? ⟨b,j,none⟩=w.cell? ⟨b,j,none⟩ :=
 World.cell?_setCell_other _ _ _ _ (by intro e;injection e with _ e _;exact h e)
attribute [local go_sem] cell_set_off
theorem row_cells {w:World} {g:Nat} {x y u v:Value} {t:TypeId} (h:w.heap[g]? = some (.cells #[x,y,u,v] t)) :
  (w.cell? ⟨g,0,none⟩=some x∧w.cell? ⟨g,1,none⟩=some y∧w.cell? ⟨g,2,none⟩=some u∧w.cell? ⟨g,3,none⟩=some v) ∧
  w.frozen? ⟨g,0,none⟩=false∧w.frozen? ⟨g,1,none⟩=false∧w.frozen? ⟨g,2,none⟩=false∧w.frozen? ⟨g,3,none⟩=false:=by
 refine ⟨⟨?_,?_,?_,?_⟩,?_,?_,?_,?_⟩
 ·rw [cell_of_row w g 0 _ _ _ h];rfl
 ·rw [cell_of_row w g 1 _ _ _ h];rfl
 ·rw [cell_of_row w g 2 _ _ _ h];rfl
 ·rw [cell_of_row w g 3 _ _ _ h];rfl
 all_goals (unfold World.frozen?;simp [h])
theorem row_set4 {w:World} {g:Nat} {x y u v a b c d:Value} {t:TypeId} (h:w.heap[g]? = some (.cells #[x,y,u,v] t)) :
  ((((w.setCell ⟨g,0,none⟩ a).setCell ⟨g,1,none⟩ b).setCell ⟨g,2,none⟩ c).setCell ⟨g,3,none⟩ d).heap[g]? = some (.cells #[a,b,c,d] t):=by
 have h1:=heap_setCell_same w g 0 _ t a h
 have h2:=heap_setCell_same _ g 1 _ t b h1
 have h3:=heap_setCell_same _ g 2 _ t c h2
 have h4:=heap_setCell_same _ g 3 _ t d h3
 exact h4
set_option maxRecDepth 100000 in
theorem both_res {w:World} {g:Nat} {a b c d:Value} {e:Int} {tmps:Array Value} {t:TypeId} (hrow:w.heap[g]? = some (.cells #[a,b,c,d] t)) (h4:tmps.getD 4 undef=.pointer (some ⟨g,0,none⟩)) (h5:tmps.getD 5 undef=.int .i64 e) :
  (results Tryz.f57 tmps).run Tryz.prog w=.ok (.tuple #[.agg #[a,b,c,d],.int .i64 e]) w:=by
 rw [results_cell_tmp (p:=4) (u:=5) (ty:=80) rfl,h4,h5]
 have hl:=run_loadVar_row (P:=Tryz.prog) w g t 80 #[a,b,c,d] _ _ hrow Tryz.underlying80 rfl (by kernel_rfl)
 show ((loadVar 80 ⟨g,0,none⟩).run Tryz.prog w).andThen _=_
 rw [hl];rfl
set_option maxRecDepth 100000 in
theorem rboth_any (a b:List UInt8) (w:World) (ha:a.length≤1000000) (hb:b.length≤1000000) :
  Calls Tryz.prog 57 #[.string (B a),.string (B b)] w fun e w'=>e=.returned (.tuple #[.agg #[.string (B (twoS a b (numT a))),.string (B (twoS a b (denT a))),.string (B (twoS a b (numT b))),.string (B (twoS a b (denT b)))],.int .i64 (errQ a b)])∧Below w.heap.size w w':=by
 have HA:=Lib.hid (fun w=>rrparts_any a w ha)
 have HB:=Lib.hid (fun w=>rrparts_any b w hb)
 cases h1:rightQ a
 ·have HE:=Lib.hid (show rightE a=3 by unfold rightE;rw [h1];rfl)
  have HQ:=Lib.hid (show errQ a b=3 by unfold errQ;rw [h1];rfl)
  have HT:=Lib.hid (show ∀ s,twoS a b s=[] by intro s;unfold twoS;rw [HQ.out];rfl)
  rw [HE.out] at HA
  go_enter Tryz.func57,Tryz.ntmps57
  go_wp2_with fail
  refine (HA.out _).mono ?_
  rintro e w1 ⟨rfl,hb1⟩
  go_wp2_with fail
  refine (HB.out w1).mono ?_
  rintro e w2 ⟨rfl,hb2⟩
  have b0:Below w.heap.size w (w.alloc (.cells #[.string (B []),.string (B []),.string (B []),.string (B [])] 80)):=(Below.refl _ _).alloc (Nat.le_refl _) _
  have b1:=b0.trans (hb1.mono b0.size)
  have b2:=b1.trans (hb2.mono b1.size)
  have hrow:=row_kept hb1 hb2
  obtain ⟨⟨c0,c1,c2,c3⟩,f0,f1,f2,f3⟩:=row_cells hrow
  have HROW:=Lib.hid hrow
  clear hrow
  go_wp2_with fail
  refine bodyPost_ret (both_res (row_set4 HROW.out) rfl rfl) rfl ⟨?_,(((b2.setCell (Nat.le_refl _) _).setCell (Nat.le_refl _) _).setCell (Nat.le_refl _) _).setCell (Nat.le_refl _) _⟩
  rw [HT.out,HT.out,HT.out,HT.out,HQ.out]
 ·have HE:=Lib.hid (show rightE a=0 by unfold rightE;rw [h1];rfl)
  rw [HE.out] at HA
  cases h2:rightQ b
  ·have HE2:=Lib.hid (show rightE b=3 by unfold rightE;rw [h2];rfl)
   have HQ:=Lib.hid (show errQ a b=3 by unfold errQ;rw [h1,h2];rfl)
   have HT:=Lib.hid (show ∀ s,twoS a b s=[] by intro s;unfold twoS;rw [HQ.out];rfl)
   rw [HE2.out] at HB
   go_enter Tryz.func57,Tryz.ntmps57
   go_wp2_with fail
   refine (HA.out _).mono ?_
   rintro e w1 ⟨rfl,hb1⟩
   go_wp2_with fail
   refine (HB.out w1).mono ?_
   rintro e w2 ⟨rfl,hb2⟩
   have b0:Below w.heap.size w (w.alloc (.cells #[.string (B []),.string (B []),.string (B []),.string (B [])] 80)):=(Below.refl _ _).alloc (Nat.le_refl _) _
   have b1:=b0.trans (hb1.mono b0.size)
   have b2:=b1.trans (hb2.mono b1.size)
   have hrow:=row_kept hb1 hb2
   obtain ⟨⟨c0,c1,c2,c3⟩,f0,f1,f2,f3⟩:=row_cells hrow
   have HROW:=Lib.hid hrow
   clear hrow
   go_wp2_with fail
   refine bodyPost_ret (both_res (row_set4 HROW.out) rfl rfl) rfl ⟨?_,(((b2.setCell (Nat.le_refl _) _).setCell (Nat.le_refl _) _).setCell (Nat.le_refl _) _).setCell (Nat.le_refl _) _⟩
   rw [HT.out,HT.out,HT.out,HT.out,HQ.out]
  ·have HE2:=Lib.hid (show rightE b=0 by unfold rightE;rw [h2];rfl)
   have HQ:=Lib.hid (show errQ a b=0 by unfold errQ;rw [h1,h2];rfl)
   have HT:=Lib.hid (show ∀ s,twoS a b s=s by intro s;unfold twoS;rw [HQ.out];rfl)
   have HP:=Lib.hid (show prtN a=numT a∧prtD a=denT a∧prtN b=numT b∧prtD b=denT b by unfold prtN prtD;rw [h1,h2];exact ⟨rfl,rfl,rfl,rfl⟩)
   rw [HE2.out] at HB
   go_enter Tryz.func57,Tryz.ntmps57
   go_wp2_with fail
   refine (HA.out _).mono ?_
   rintro e w1 ⟨rfl,hb1⟩
   go_wp2_with fail
   refine (HB.out w1).mono ?_
   rintro e w2 ⟨rfl,hb2⟩
   have b0:Below w.heap.size w (w.alloc (.cells #[.string (B []),.string (B []),.string (B []),.string (B [])] 80)):=(Below.refl _ _).alloc (Nat.le_refl _) _
   have b1:=b0.trans (hb1.mono b0.size)
   have b2:=b1.trans (hb2.mono b1.size)
   have hrow:=row_kept hb1 hb2
   obtain ⟨⟨c0,c1,c2,c3⟩,f0,f1,f2,f3⟩:=row_cells hrow
   have HROW:=Lib.hid hrow
   clear hrow
   go_wp2_with fail
   refine bodyPost_ret (both_res (row_set4 HROW.out) rfl rfl) rfl ⟨?_,(((b2.setCell (Nat.le_refl _) _).setCell (Nat.le_refl _) _).setCell (Nat.le_refl _) _).setCell (Nat.le_refl _) _⟩
   rw [HT.out,HT.out,HT.out,HT.out,HQ.out,HP.out.1,HP.out.2.1,HP.out.2.2.1,HP.out.2.2.2]
theorem wrmulq_any (x y:Int) (w:World) (hx:dl x≤4096) (hy:dl y≤4096) :
  Calls Tryz.prog 100 #[.string (B (decI x)),.string (B (decI y))] w fun e w'=>e=.returned (.tuple #[.string (B (resIS (x*y))),.int .i64 (resIE (x*y))])∧Below w.heap.size w w':=by
 have h1:=dl_len x
 have h2:=dl_len y
 have he:=errI_dec hx hy
 have h:=wrmul_any (decI x) (decI y) w (by omega) (by omega)
 have e1:mulIS (decI x) (decI y)=resIS (x*y):=by unfold mulIS;rw [if_pos he,valI_decI,valI_decI]
 have e2:mulIE (decI x) (decI y)=resIE (x*y):=by unfold mulIE;rw [if_pos he,valI_decI,valI_decI]
 rw [e1,e2] at h;exact h
theorem wraddq_any (x y:Int) (w:World) (hx:dl x≤4096) (hy:dl y≤4096) :
  Calls Tryz.prog 127 #[.string (B (decI x)),.string (B (decI y))] w fun e w'=>e=.returned (.tuple #[.string (B (resIS (x+y))),.int .i64 (resIE (x+y))])∧Below w.heap.size w w':=by
 have h1:=dl_len x
 have h2:=dl_len y
 have he:=errI_dec hx hy
 have h:=wradd_any (decI x) (decI y) w (by omega) (by omega)
 have e1:addIS (decI x) (decI y)=resIS (x+y):=by unfold addIS;rw [if_pos he,valI_decI,valI_decI]
 have e2:addIE (decI x) (decI y)=resIE (x+y):=by unfold addIE;rw [if_pos he,valI_decI,valI_decI]
 rw [e1,e2] at h;exact h
theorem res_yes {z:Int} (h:dl z≤4096):resIS z=decI z∧resIE z=0:=resIS_dec h
theorem res_no {z:Int} (h:¬ dl z≤4096):resIS z=[]∧resIE z=4:=⟨if_neg h,if_neg h⟩
set_option maxRecDepth 100000 in
theorem rover_any (x y u v:Int) (w:World) (hx:dl x≤4096) (hy:dl y≤4096) (hu:dl u≤4096) (hv:dl v≤4096) (h0:u*v≠0) :
  Calls Tryz.prog 59 #[.string (B (decI x)),.string (B (decI y)),.string (B (decI u)),.string (B (decI v))] w fun e w' =>
   e=.returned (.tuple #[.string (B (if dl (x*y)≤4096∧dl (u*v)≤4096 then quoS (x*y) (u*v) else [])),.int .i64 (if dl (x*y)≤4096∧dl (u*v)≤4096 then 0 else 4)])∧Below w.heap.size w w':=by
 have H1:=Lib.hid (fun w=>wrmulq_any x y w hx hy)
 have H2:=Lib.hid (fun w=>wrmulq_any u v w hu hv)
 by_cases h1:dl (x*y)≤4096
 ·by_cases h2:dl (u*v)≤4096
  ·rw [(res_yes h1).1,(res_yes h1).2] at H1
   rw [(res_yes h2).1,(res_yes h2).2] at H2
   have HI:=Lib.hid (show (if dl (x*y)≤4096∧dl (u*v)≤4096 then quoS (x*y) (u*v) else [])=quoS (x*y) (u*v)∧(if dl (x*y)≤4096∧dl (u*v)≤4096 then 0 else 4:Int)=0 from ⟨if_pos ⟨h1,h2⟩,if_pos ⟨h1,h2⟩⟩)
   rw [HI.out.1,HI.out.2]
   have HD:=Lib.hid (fun w=>rreduced_any (x*y) (u*v) w h1 h2 h0)
   clear HI h1 h2
   go_enter Tryz.func59,Tryz.ntmps59
   simp only [B_mk]
   go_wp2_with fail
   refine (H1.out w).mono ?_
   rintro e w1 ⟨rfl,hb1⟩
   go_wp2_with fail
   refine (H2.out w1).mono ?_
   rintro e w2 ⟨rfl,hb2⟩
   have a2:=hb1.trans (hb2.mono hb1.size)
   go_wp2_with fail
   refine (HD.out w2).mono ?_
   rintro e w3 ⟨rfl,hb3⟩
   go_wp2_with fail
   go_ret2
   exact ⟨rfl,a2.trans (hb3.mono a2.size)⟩
  ·rw [(res_yes h1).1,(res_yes h1).2] at H1
   rw [(res_no h2).1,(res_no h2).2] at H2
   have HI:=Lib.hid (show (if dl (x*y)≤4096∧dl (u*v)≤4096 then quoS (x*y) (u*v) else [])=[]∧(if dl (x*y)≤4096∧dl (u*v)≤4096 then 0 else 4:Int)=4 from ⟨if_neg (fun h=>h2 h.2),if_neg (fun h=>h2 h.2)⟩)
   rw [HI.out.1,HI.out.2]
   clear HI h1 h2
   go_enter Tryz.func59,Tryz.ntmps59
   simp only [B_mk]
   go_wp2_with fail
   refine (H1.out w).mono ?_
   rintro e w1 ⟨rfl,hb1⟩
   go_wp2_with fail
   refine (H2.out w1).mono ?_
   rintro e w2 ⟨rfl,hb2⟩
   have a2:=hb1.trans (hb2.mono hb1.size)
   go_wp2_with fail
   go_ret2
   exact ⟨rfl,a2⟩
 ·have HI:=Lib.hid (show (if dl (x*y)≤4096∧dl (u*v)≤4096 then quoS (x*y) (u*v) else [])=[]∧(if dl (x*y)≤4096∧dl (u*v)≤4096 then 0 else 4:Int)=4 from ⟨if_neg (fun h=>h1 h.1),if_neg (fun h=>h1 h.1)⟩)
  rw [HI.out.1,HI.out.2]
  rw [(res_no h1).1,(res_no h1).2] at H1
  generalize resIS (u*v)=s2 at *
  generalize resIE (u*v)=e2 at *
  clear HI h1
  go_enter Tryz.func59,Tryz.ntmps59
  simp only [B_mk]
  go_wp2_with fail
  refine (H1.out w).mono ?_
  rintro e w1 ⟨rfl,hb1⟩
  go_wp2_with fail
  refine (H2.out w1).mono ?_
  rintro e w2 ⟨rfl,hb2⟩
  have a2:=hb1.trans (hb2.mono hb1.size)
  go_wp2_with fail
  go_ret2
  exact ⟨rfl,a2⟩
end Go.Proofs.YtmppmdmekomjbaaGreatDoor

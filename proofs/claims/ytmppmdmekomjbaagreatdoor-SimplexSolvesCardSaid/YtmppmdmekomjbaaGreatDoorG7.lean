/- The reference of whole: sum, Add, Sub, Mul, Neg, Abs, Compare, Sign. -/
import Derived.Test.YtmppmdmekomjbaaGreatDoorG6
namespace Go.Proofs.YtmppmdmekomjbaaGreatDoor
open Go.RowKit Num
set_option linter.unusedVariables false
attribute [local go_sem] B_size B_get B_toList B_mk B_extract B_append
attribute [local go_sem high] run_max2
theorem ns_add_len {a b k:Nat} (ha:(ns a).length≤k) (hb:(ns b).length≤k):(ns (a+b)).length≤k+1:=by
 have h1:=ns_length_le.1 ha
 have h2:=ns_length_le.1 hb
 refine ns_length_le.2 ?_
 rw [Nat.pow_succ];omega
theorem ns_mul_len {a b k m:Nat} (ha:(ns a).length≤k) (hb:(ns b).length≤m):(ns (a*b)).length≤k+m:=by
 have h1:=ns_length_le.1 ha
 have h2:=ns_length_le.1 hb
 refine ns_length_le.2 ?_
 rw [Nat.pow_add]
 rcases Nat.eq_zero_or_pos b with h0 | h0
 ·subst h0;rw [Nat.mul_zero];exact Nat.mul_pos (Nat.pow_pos (by omega)) (Nat.pow_pos (by omega))
 ·exact Nat.lt_of_lt_of_le (Nat.mul_lt_mul_of_pos_right h1 h0) (Nat.mul_le_mul_left _ (Nat.le_of_lt h2))
theorem ns_le_len {a k:Nat} {l:Str} (h:right l=true) (hl:l.length≤k) (ha:a≤val l):(ns a).length≤k:=by
 refine ns_length_le.2 ?_
 have:=val_lt_len h
 have:=Nat.pow_le_pow_right (show 0<10 by omega) hl
 omega
theorem dec_len_ns (n:Nat):(dec n).length≤(ns n).length+1:=by
 by_cases h:n=0
 ·subst h;rw [dec_zero];simp
 ·rw [ns_len h];omega
theorem decI_len {z:Int} {k:Nat} (h:(ns z.natAbs).length≤k):(decI z).length≤k+2:=by
 have h1:=mag_length_decI z
 have h2:=dec_len_ns z.natAbs
 omega
theorem sg_add_abs (m n:Bool) (a b:Nat):(sg m a+sg n b).natAbs≤a+b:=by cases m <;> cases n <;> simp [sg] <;> omega
theorem wtext_num (neg:Bool) (v:Nat) (A:Option Addr) (c:Nat) (w:World) (hd:DigAt w A c v) (hl:(ns v).length≤1000000) :
  Calls Tryz.prog 102 #[.bool neg,.slice A (ns v).length c] w fun e w'=>e=.returned (.string (B (decI (sg neg v))))∧Below w.heap.size w w':=by
 have h:=wtext_any neg (ns v) A c w (digl_ns v) hl hd.le hd.cap hd.cells
 rwa [lw_ns] at h
theorem wcompare_num (a b:Nat) (A A':Option Addr) (c c':Nat) (w:World) (hA:DigAt w A c a) (hB:DigAt w A' c' b) (hla:(ns a).length≤1000000) (hlb:(ns b).length≤1000000) :
  Calls Tryz.prog 131 #[.slice A (ns a).length c,.slice A' (ns b).length c'] w fun e w'=>e=.returned (.int .i64 (ordI a b))∧w'=w:=by
 have h:=wcompare_any (ns a) (ns b) A A' c c' w (digl_ns a) (digl_ns b) hla hlb hA.le hB.le hA.cap hB.cap hA.cells hB.cells
 rwa [lw_ns,lw_ns] at h
set_option maxHeartbeats 1000000 in
theorem wsum_any (m n:Bool) (a b:Nat) (A A':Option Addr) (c c':Nat) (w:World) (hA:DigAt w A c a) (hB:DigAt w A' c' b) (hla:(ns a).length≤100000) (hlb:(ns b).length≤100000) :
  Calls Tryz.prog 164 #[.bool m,.slice A (ns a).length c,.bool n,.slice A' (ns b).length c'] w fun e w'=>e=.returned (.string (B (decI (sg m a+sg n b))))∧Below w.heap.size w w':=by
 by_cases hmn:m=n
 ·subst hmn
  have HR:=Lib.hid (sum_same m a b)
  have hl2:=ns_add_len (k:=100000) hla hlb
  have hb:(m == m)=true:=by simp
  have HP:=Lib.hid (wplus_any a b A A' c c' w hA hB (by omega) (by omega))
  have HT:=Lib.hid (fun A c w hd=>wtext_num m (a+b) A c w hd (by omega))
  generalize a+b=s at *
  generalize ns a=xs at *
  generalize ns b=ys at *
  go_enter Tryz.func164,Tryz.ntmps164
  go_wp2_with fail
  refine HP.out.mono ?_
  rintro e w1 ⟨A1,c1,rfl,hd1,hb1⟩
  go_wp2_with fail
  refine (HT.out A1 c1 w1 hd1).mono ?_
  rintro e w2 ⟨rfl,hb2⟩
  go_wp2_with fail
  go_ret
  exact ⟨ret_str (by rw [HR.out]),hb1.trans (hb2.mono hb1.size)⟩
 ·have hb:(m == n)=false:=by simpa using hmn
  have HC:=Lib.hid (wcompare_num a b A A' c c' w hA hB (by omega) (by omega))
  by_cases hge:b≤a
  ·have HR:=Lib.hid (sum_more hmn hge)
   have HM:=Lib.hid (wminus_any a b A A' c c' w hA hB (by omega) hge)
   have hl2:(ns (a - b)).length≤100000:=Nat.le_trans (ns_length_mono (by omega)) hla
   have HT:=Lib.hid (fun A c w hd=>wtext_num m (a - b) A c w hd (by omega))
   obtain ⟨o,ho,hop⟩:∃ o,ordI a b=o∧0≤o:=by
    refine ⟨_,rfl,?_⟩
    unfold ordI;rw [if_neg (by omega)];split <;> omega
   have HO:=Lib.hid ho
   clear hmn ho
   generalize a - b=s at *
   go_enter Tryz.func164,Tryz.ntmps164
   go_wp2_with fail
   refine HC.out.mono ?_
   rw [HO.out]
   rintro e w' ⟨rfl,h⟩
   obtain rfl:=h.symm
   go_wp2_with fail
   refine HM.out.mono ?_
   rintro e w1 ⟨A1,c1,rfl,hd1,_,hb1⟩
   go_wp2_with fail
   refine (HT.out A1 c1 w1 hd1).mono ?_
   rintro e w2 ⟨rfl,hb2⟩
   go_wp2_with fail
   go_ret
   exact ⟨ret_str (by rw [HR.out]),hb1.trans (hb2.mono hb1.size)⟩
  ·have HR:=Lib.hid (sum_less (m:=m) (n:=n) hmn (show a<b by omega))
   have HM:=Lib.hid (wminus_any b a A' A c' c w hB hA (by omega) (by omega))
   have hl2:(ns (b - a)).length≤100000:=Nat.le_trans (ns_length_mono (by omega)) hlb
   have HT:=Lib.hid (fun A c w hd=>wtext_num n (b - a) A c w hd (by omega))
   obtain ⟨o,ho,hop⟩:∃ o,ordI a b=o∧¬ 0≤o:=by
    refine ⟨_,rfl,?_⟩
    unfold ordI;rw [if_pos (by omega)];omega
   have HO:=Lib.hid ho
   clear hmn ho
   generalize b - a=s at *
   go_enter Tryz.func164,Tryz.ntmps164
   go_wp2_with fail
   refine HC.out.mono ?_
   rw [HO.out]
   rintro e w' ⟨rfl,h⟩
   obtain rfl:=h.symm
   go_wp2_with fail
   refine HM.out.mono ?_
   rintro e w1 ⟨A1,c1,rfl,hd1,_,hb1⟩
   go_wp2_with fail
   refine (HT.out A1 c1 w1 hd1).mono ?_
   rintro e w2 ⟨rfl,hb2⟩
   go_wp2_with fail
   go_ret
   exact ⟨ret_str (by rw [HR.out]),hb1.trans (hb2.mono hb1.size)⟩
theorem ret_si {a b:List UInt8} {c d:Int} (h:a=b) (h2:c=d):Ending.returned (.tuple #[.string (B a),.int .i64 c])=.returned (.tuple #[.string (B b),.int .i64 d]):=by rw [h,h2]
theorem errI_len {a b:Str} (he:errI a b=0):(ns (val (mag a))).length≤4096∧(ns (val (mag b))).length≤4096:=by
 obtain ⟨h1,h2,h3,h4⟩:=errI_zero.1 he
 exact ⟨ns_le_len (right_mag h1) h3 (Nat.le_refl _),ns_le_len (right_mag h2) h4 (Nat.le_refl _)⟩
set_option maxHeartbeats 1000000 in
theorem wradd_any (a b:List UInt8) (w:World) (ha:a.length≤1000000) (hb:b.length≤1000000) :
  Calls Tryz.prog 127 #[.string (B a),.string (B b)] w fun e w'=>e=.returned (.tuple #[.string (B (addIS a b)),.int .i64 (addIE a b)])∧Below w.heap.size w w':=by
 have hma:a.length≤maxLen:=by unfold maxLen;omega
 have hmb:b.length≤maxLen:=by unfold maxLen;omega
 by_cases he:errI a b=0
 ·have HR:=Lib.hid (show addIS a b=resIS (valI a+valI b)∧addIE a b=resIE (valI a+valI b) from ⟨if_pos he,if_pos he⟩)
  obtain ⟨h1,h2,h3,h4⟩:=errI_zero.1 he
  obtain ⟨hla,hlb⟩:=errI_len he
  have HE:=Lib.hid he
  have HA:=Lib.hid (valI_sg a)
  have HB:=Lib.hid (valI_sg b)
  go_enter Tryz.func127,Tryz.ntmps127
  go_wp2_with fail
  refine (wcheck_any a b w hma hmb).mono ?_;rw [HE.out];rintro e w' ⟨rfl,h⟩
  obtain rfl:=h.symm
  go_wp2_with fail
  refine (wparts_any a w ha h1).mono ?_
  rintro e w1 ⟨A1,c1,rfl,hd1,hb1⟩
  go_wp2_with fail
  refine (wparts_any b w1 hb h2).mono ?_
  rintro e w2 ⟨A2,c2,rfl,hd2,hb2⟩
  have hd1':=hd1.below hb2
  have hb12:=hb1.trans (hb2.mono hb1.size)
  clear hd1 he
  have HZ:=Lib.hid (show sg (neg? a) (val (mag a))+sg (neg? b) (val (mag b))=valI a+valI b from by rw [HA.out,HB.out])
  have hzl:(decI (sg (neg? a) (val (mag a))+sg (neg? b) (val (mag b)))).length≤maxLen:=by
   have h5:=sg_add_abs (neg? a) (neg? b) (val (mag a)) (val (mag b))
   have h6:=decI_len (Nat.le_trans (ns_length_mono h5) (ns_add_len hla hlb))
   unfold maxLen;omega
  have HL:=Lib.hid hzl
  clear hzl
  generalize val (mag a)=x at *
  generalize val (mag b)=y at *
  go_wp2_with fail
  refine (wsum_any (neg? a) (neg? b) x y A1 A2 c1 c2 w2 hd1' hd2 (by omega) (by omega)).mono ?_
  rintro e w3 ⟨rfl,hb3⟩
  go_wp2_with fail
  refine (wresult_any _ w3 HL.out).mono ?_
  rintro e w' ⟨rfl,h⟩
  obtain rfl:=h.symm
  go_wp2_with fail
  go_ret2
  exact ⟨ret_si (by rw [HR.out.1,HZ.out]) (by rw [HR.out.2,HZ.out]),hb12.trans (hb3.mono hb12.size)⟩
 ·have HR:=Lib.hid (show addIS a b=[]∧addIE a b=errI a b from ⟨if_neg he,if_neg he⟩)
  have hne:(errI a b != 0)=true:=by simpa using he
  clear he
  go_enter Tryz.func127,Tryz.ntmps127
  go_wp2_with fail
  refine (wcheck_any a b w hma hmb).mono ?_;rintro e w' ⟨rfl,h⟩
  obtain rfl:=h.symm
  go_wp2_with fail
  go_ret2
  exact ⟨ret_si HR.out.1.symm HR.out.2.symm,Below.refl _ _⟩
set_option maxHeartbeats 1000000 in
theorem wrmul_any (a b:List UInt8) (w:World) (ha:a.length≤1000000) (hb:b.length≤1000000) :
  Calls Tryz.prog 100 #[.string (B a),.string (B b)] w fun e w'=>e=.returned (.tuple #[.string (B (mulIS a b)),.int .i64 (mulIE a b)])∧Below w.heap.size w w':=by
 have hma:a.length≤maxLen:=by unfold maxLen;omega
 have hmb:b.length≤maxLen:=by unfold maxLen;omega
 by_cases he:errI a b=0
 ·have HR:=Lib.hid (show mulIS a b=resIS (valI a*valI b)∧mulIE a b=resIE (valI a*valI b) from ⟨if_pos he,if_pos he⟩)
  obtain ⟨h1,h2,h3,h4⟩:=errI_zero.1 he
  obtain ⟨hla,hlb⟩:=errI_len he
  have HE:=Lib.hid he
  have HA:=Lib.hid (valI_sg a)
  have HB:=Lib.hid (valI_sg b)
  go_enter Tryz.func100,Tryz.ntmps100
  go_wp2_with fail
  refine (wcheck_any a b w hma hmb).mono ?_;rw [HE.out];rintro e w' ⟨rfl,h⟩
  obtain rfl:=h.symm
  go_wp2_with fail
  refine (wparts_any a w ha h1).mono ?_
  rintro e w1 ⟨A1,c1,rfl,hd1,hb1⟩
  go_wp2_with fail
  refine (wparts_any b w1 hb h2).mono ?_
  rintro e w2 ⟨A2,c2,rfl,hd2,hb2⟩
  have hd1':=hd1.below hb2
  have hb12:=hb1.trans (hb2.mono hb1.size)
  clear hd1 he
  have HZ:=Lib.hid (show sg (neg? a != neg? b) (val (mag a)*val (mag b))=valI a*valI b by rw [HA.out,HB.out,mul_sg])
  have hlm:=ns_mul_len hla hlb
  have hzl:(decI (sg (neg? a != neg? b) (val (mag a)*val (mag b)))).length≤maxLen:=by
   have h6:=decI_len (z:=sg (neg? a != neg? b) (val (mag a)*val (mag b))) (k:=4096+4096) (by rw [sg_abs];exact hlm)
   unfold maxLen;omega
  have HL:=Lib.hid hzl
  clear hzl
  have HT:=Lib.hid (fun A c w hd=>wtext_num (neg? a != neg? b) (val (mag a)*val (mag b)) A c w hd (by omega))
  have HM:=Lib.hid (wtimes_any (val (mag a)) (val (mag b)) A1 A2 c1 c2 w2 hd1' hd2 (by omega) (by omega))
  generalize val (mag a)*val (mag b)=p at *
  go_wp2_with fail
  refine HM.out.mono ?_
  rintro e w3 ⟨A3,c3,rfl,hd3,hb3⟩
  have hb13:=hb12.trans (hb3.mono hb12.size)
  go_wp2_with fail
  refine (HT.out A3 c3 w3 hd3).mono ?_
  rintro e w4 ⟨rfl,hb4⟩
  go_wp2_with fail
  refine (wresult_any _ w4 HL.out).mono ?_
  rintro e w' ⟨rfl,h⟩
  obtain rfl:=h.symm
  go_wp2_with fail
  go_ret2
  exact ⟨ret_si (by rw [HR.out.1,HZ.out]) (by rw [HR.out.2,HZ.out]),hb13.trans (hb4.mono hb13.size)⟩
 ·have HR:=Lib.hid (show mulIS a b=[]∧mulIE a b=errI a b from ⟨if_neg he,if_neg he⟩)
  have hne:(errI a b != 0)=true:=by simpa using he
  clear he
  go_enter Tryz.func100,Tryz.ntmps100
  go_wp2_with fail
  refine (wcheck_any a b w hma hmb).mono ?_;rintro e w' ⟨rfl,h⟩
  obtain rfl:=h.symm
  go_wp2_with fail
  go_ret2
  exact ⟨ret_si HR.out.1.symm HR.out.2.symm,Below.refl _ _⟩
set_option maxHeartbeats 1000000 in
theorem wrneg_any (a:List UInt8) (w:World) (ha:a.length≤1000000) :
  Calls Tryz.prog 135 #[.string (B a)] w fun e w'=>e=.returned (.tuple #[.string (B (negIS a)),.int .i64 (errI a a)])∧Below w.heap.size w w':=by
 have hma:a.length≤maxLen:=by unfold maxLen;omega
 by_cases he:errI a a=0
 ·have HR:=Lib.hid (show negIS a=decI (-(valI a)) from if_pos he)
  obtain ⟨h1,h2,h3,h4⟩:=errI_zero.1 he
  obtain ⟨hla,hlb⟩:=errI_len he
  have HE:=Lib.hid he
  have HZ:=Lib.hid (show sg (!neg? a) (val (mag a)) = -(valI a) by rw [sg_not,valI_sg])
  clear he
  go_enter Tryz.func135,Tryz.ntmps135
  go_wp2_with fail
  refine (wcheck_any a a w hma hma).mono ?_;rw [HE.out];rintro e w' ⟨rfl,h⟩
  obtain rfl:=h.symm
  go_wp2_with fail
  refine (wparts_any a w ha h1).mono ?_
  rintro e w1 ⟨A1,c1,rfl,hd1,hb1⟩
  go_wp2_with fail
  refine (wtext_num _ _ A1 c1 w1 hd1 (by omega)).mono ?_
  rintro e w2 ⟨rfl,hb2⟩
  go_wp2_with fail
  go_ret2
  exact ⟨ret_si (by rw [HR.out,HZ.out]) HE.out.symm,hb1.trans (hb2.mono hb1.size)⟩
 ·have HR:=Lib.hid (show negIS a=[] from if_neg he)
  have hne:(errI a a != 0)=true:=by simpa using he
  clear he
  go_enter Tryz.func135,Tryz.ntmps135
  go_wp2_with fail
  refine (wcheck_any a a w hma hma).mono ?_;rintro e w' ⟨rfl,h⟩
  obtain rfl:=h.symm
  go_wp2_with fail
  go_ret2
  exact ⟨ret_si HR.out.symm rfl,Below.refl _ _⟩
set_option maxHeartbeats 1000000 in
theorem wrabs_any (a:List UInt8) (w:World) (ha:a.length≤1000000) :
  Calls Tryz.prog 77 #[.string (B a)] w fun e w'=>e=.returned (.tuple #[.string (B (absIS a)),.int .i64 (errI a a)])∧Below w.heap.size w w':=by
 have hma:a.length≤maxLen:=by unfold maxLen;omega
 by_cases he:errI a a=0
 ·have HR:=Lib.hid (show absIS a=decI ((valI a).natAbs:Int) from if_pos he)
  obtain ⟨h1,h2,h3,h4⟩:=errI_zero.1 he
  obtain ⟨hla,hlb⟩:=errI_len he
  have HE:=Lib.hid he
  have HZ:=Lib.hid (show sg false (val (mag a))=((valI a).natAbs:Int) by rw [abs_valI];rfl)
  clear he
  go_enter Tryz.func77,Tryz.ntmps77
  go_wp2_with fail
  refine (wcheck_any a a w hma hma).mono ?_;rw [HE.out];rintro e w' ⟨rfl,h⟩
  obtain rfl:=h.symm
  go_wp2_with fail
  refine (wparts_any a w ha h1).mono ?_
  rintro e w1 ⟨A1,c1,rfl,hd1,hb1⟩
  go_wp2_with fail
  refine (wtext_num _ _ A1 c1 w1 hd1 (by omega)).mono ?_
  rintro e w2 ⟨rfl,hb2⟩
  go_wp2_with fail
  go_ret2
  exact ⟨ret_si (by rw [HR.out,HZ.out]) HE.out.symm,hb1.trans (hb2.mono hb1.size)⟩
 ·have HR:=Lib.hid (show absIS a=[] from if_neg he)
  have hne:(errI a a != 0)=true:=by simpa using he
  clear he
  go_enter Tryz.func77,Tryz.ntmps77
  go_wp2_with fail
  refine (wcheck_any a a w hma hma).mono ?_;rintro e w' ⟨rfl,h⟩
  obtain rfl:=h.symm
  go_wp2_with fail
  go_ret2
  exact ⟨ret_si HR.out.symm rfl,Below.refl _ _⟩
theorem ordI_nn (x y:Nat):ordI (-(x:Int)) (-(y:Int))=ordI y x:=by unfold ordI;split <;> split <;> (try split) <;> omega
theorem val_pos_neg {a:Str} (h:rightI a=true) (hn:neg? a=true):0<val (mag a):=by
 rcases Nat.eq_zero_or_pos (val (mag a)) with h0 | h0
 ·have h1:=dec_mag h
  rw [h0,dec_zero] at h1
  unfold rightI at h
  rw [hn,h1] at h
  simp at h
 ·exact h0
theorem cmp_pp {a b:Str} (h1:rightI a=true) (h2:rightI b=true) (hn:neg? a=false) (hm:neg? b=false):cmpIS a b=ordI (val (mag a)) (val (mag b)):=by
 rw [cmpIS,if_pos ⟨h1,h2⟩,valI_sg,valI_sg,hn,hm];rfl
theorem cmp_nn {a b:Str} (h1:rightI a=true) (h2:rightI b=true) (hn:neg? a=true) (hm:neg? b=true):cmpIS a b=ordI (val (mag b)) (val (mag a)):=by
 rw [cmpIS,if_pos ⟨h1,h2⟩,valI_sg,valI_sg,hn,hm,sg_true,sg_true,ordI_nn]
theorem cmp_np {a b:Str} (h1:rightI a=true) (h2:rightI b=true) (hn:neg? a=true) (hm:neg? b=false):cmpIS a b = -1:=by
 have:=val_pos_neg h1 hn
 rw [cmpIS,if_pos ⟨h1,h2⟩,valI_sg,valI_sg,hn,hm,sg_true,sg_false,ordI,if_pos (by omega)]
theorem cmp_pn {a b:Str} (h1:rightI a=true) (h2:rightI b=true) (hn:neg? a=false) (hm:neg? b=true):cmpIS a b=1:=by
 have:=val_pos_neg h2 hm
 rw [cmpIS,if_pos ⟨h1,h2⟩,valI_sg,valI_sg,hn,hm,sg_true,sg_false,ordI,if_neg (by omega),if_pos (by omega)]
set_option maxHeartbeats 1000000 in
theorem wrcompare_any (a b:List UInt8) (w:World) (ha:a.length≤100000) (hb:b.length≤100000) :
  Calls Tryz.prog 99 #[.string (B a),.string (B b)] w fun e w'=>e=.returned (.int .i64 (cmpIS a b))∧Below w.heap.size w w':=by
 have hma:a.length≤maxLen:=by unfold maxLen;omega
 have hmb:b.length≤maxLen:=by unfold maxLen;omega
 cases h1:rightI a
 ·have HR:=Lib.hid (show cmpIS a b=0 by rw [cmpIS,if_neg (by simp [h1])])
  go_enter Tryz.func99,Tryz.ntmps99
  go_wp2_with fail
  refine (wright_ref_any _ _ hma).mono ?_;rintro e w' ⟨rfl,h⟩;obtain rfl:=h.symm
  go_wp2_with fail
  go_ret
  exact ⟨ret_int HR.out.symm,Below.refl _ _⟩
 ·cases h2:rightI b
  ·have HR:=Lib.hid (show cmpIS a b=0 by rw [cmpIS,if_neg (by simp [h2])])
   go_enter Tryz.func99,Tryz.ntmps99
   go_wp2_with fail
   refine (wright_ref_any _ _ hma).mono ?_;rintro e w' ⟨rfl,h⟩;obtain rfl:=h.symm
   go_wp2_with fail
   refine (wright_ref_any _ _ hmb).mono ?_;rintro e w' ⟨rfl,h⟩;obtain rfl:=h.symm
   go_wp2_with fail
   go_ret
   exact ⟨ret_int HR.out.symm,Below.refl _ _⟩
  ·have hla:(ns (val (mag a))).length≤100000:=ns_le_len (right_mag h1) (by have:=mag_length a;omega) (Nat.le_refl _)
   have hlb:(ns (val (mag b))).length≤100000:=ns_le_len (right_mag h2) (by have:=mag_length b;omega) (Nat.le_refl _)
   cases hn:neg? a <;> cases hm:neg? b
   ·have HR:=Lib.hid (cmp_pp h1 h2 hn hm)
    go_enter Tryz.func99,Tryz.ntmps99
    go_wp2_with fail
    refine (wright_ref_any _ _ hma).mono ?_;rintro e w' ⟨rfl,h⟩;obtain rfl:=h.symm
    go_wp2_with fail
    refine (wright_ref_any _ _ hmb).mono ?_;rintro e w' ⟨rfl,h⟩;obtain rfl:=h.symm
    go_wp2_with fail
    refine (wparts_any a w (by omega) h1).mono ?_
    rintro e w1 ⟨A1,c1,rfl,hd1,hb1⟩
    go_wp2_with fail
    refine (wparts_any b w1 (by omega) h2).mono ?_
    rintro e w2 ⟨A2,c2,rfl,hd2,hb2⟩
    have hd1':=hd1.below hb2
    have hb12:=hb1.trans (hb2.mono hb1.size)
    rw [hm]
    go_wp2_with fail
    refine (wcompare_num _ _ A1 A2 c1 c2 w2 hd1' hd2 (by omega) (by omega)).mono ?_;rintro e w' ⟨rfl,h⟩;obtain rfl:=h.symm
    go_wp2_with fail
    go_ret
    exact ⟨ret_int HR.out.symm,hb12⟩
   ·have HR:=Lib.hid (cmp_pn h1 h2 hn hm)
    go_enter Tryz.func99,Tryz.ntmps99
    go_wp2_with fail
    refine (wright_ref_any _ _ hma).mono ?_;rintro e w' ⟨rfl,h⟩;obtain rfl:=h.symm
    go_wp2_with fail
    refine (wright_ref_any _ _ hmb).mono ?_;rintro e w' ⟨rfl,h⟩;obtain rfl:=h.symm
    go_wp2_with fail
    refine (wparts_any a w (by omega) h1).mono ?_
    rintro e w1 ⟨A1,c1,rfl,hd1,hb1⟩
    go_wp2_with fail
    refine (wparts_any b w1 (by omega) h2).mono ?_
    rintro e w2 ⟨A2,c2,rfl,hd2,hb2⟩
    have hb12:=hb1.trans (hb2.mono hb1.size)
    rw [hm]
    go_wp2_with fail
    go_ret
    exact ⟨ret_int HR.out.symm,hb12⟩
   ·have HR:=Lib.hid (cmp_np h1 h2 hn hm)
    go_enter Tryz.func99,Tryz.ntmps99
    go_wp2_with fail
    refine (wright_ref_any _ _ hma).mono ?_;rintro e w' ⟨rfl,h⟩;obtain rfl:=h.symm
    go_wp2_with fail
    refine (wright_ref_any _ _ hmb).mono ?_;rintro e w' ⟨rfl,h⟩;obtain rfl:=h.symm
    go_wp2_with fail
    refine (wparts_any a w (by omega) h1).mono ?_
    rintro e w1 ⟨A1,c1,rfl,hd1,hb1⟩
    go_wp2_with fail
    refine (wparts_any b w1 (by omega) h2).mono ?_
    rintro e w2 ⟨A2,c2,rfl,hd2,hb2⟩
    have hb12:=hb1.trans (hb2.mono hb1.size)
    rw [hm]
    go_wp2_with fail
    go_ret
    exact ⟨ret_int HR.out.symm,hb12⟩
   ·have HR:=Lib.hid (cmp_nn h1 h2 hn hm)
    go_enter Tryz.func99,Tryz.ntmps99
    go_wp2_with fail
    refine (wright_ref_any _ _ hma).mono ?_;rintro e w' ⟨rfl,h⟩;obtain rfl:=h.symm
    go_wp2_with fail
    refine (wright_ref_any _ _ hmb).mono ?_;rintro e w' ⟨rfl,h⟩;obtain rfl:=h.symm
    go_wp2_with fail
    refine (wparts_any a w (by omega) h1).mono ?_
    rintro e w1 ⟨A1,c1,rfl,hd1,hb1⟩
    go_wp2_with fail
    refine (wparts_any b w1 (by omega) h2).mono ?_
    rintro e w2 ⟨A2,c2,rfl,hd2,hb2⟩
    have hd1':=hd1.below hb2
    have hb12:=hb1.trans (hb2.mono hb1.size)
    rw [hm]
    go_wp2_with fail
    refine (wcompare_num _ _ A2 A1 c2 c1 w2 hd2 hd1' (by omega) (by omega)).mono ?_;rintro e w' ⟨rfl,h⟩;obtain rfl:=h.symm
    go_wp2_with fail
    go_ret
    exact ⟨ret_int HR.out.symm,hb12⟩
theorem wrsign_any (a:List UInt8) (w:World) (ha:a.length≤1000000) :
  Calls Tryz.prog 134 #[.string (B a)] w fun e w'=>e=.returned (.int .i64 (signIS a))∧w'=w:=by
 have hma:a.length≤maxLen:=by unfold maxLen;omega
 cases h1:rightI a
 ·have HR:=Lib.hid (show signIS a=0 by rw [signIS,h1];rfl)
  go_enter Tryz.func134,Tryz.ntmps134
  go_wp2_with fail
  refine (wright_ref_any _ _ hma).mono ?_;rintro e w' ⟨rfl,h⟩;obtain rfl:=h.symm
  go_wp2_with fail
  go_ret
  exact ⟨ret_int HR.out.symm,rfl⟩
 ·by_cases h0:a=[48]
  ·have HR:=Lib.hid (show signIS a=0 by rw [h0];rfl)
   have h0':(a == [48])=true:=by simpa using h0
   clear h0
   go_enter Tryz.func134,Tryz.ntmps134
   go_wp2_with fail
   refine (wright_ref_any _ _ hma).mono ?_;rintro e w' ⟨rfl,h⟩;obtain rfl:=h.symm
   go_wp2_with fail
   go_ret
   exact ⟨ret_int HR.out.symm,rfl⟩
  ·have h0':(a == [48])=false:=by simpa using h0
   cases hn:neg? a
   ·have h2:=neg_not hn
    have hp:0<a.length:=by
     have:=List.length_pos_iff.2 (right_ne (right_mag h1));have:=mag_length a;omega
    have h45:(((at8 a 0).toNat:Int) == 45)=false:=by
     have:=h2.2 hp
     rw [beq_eq_false_iff_ne];intro e;exact this (UInt8.toNat_inj.1 (by simp;omega))
    have HR:=Lib.hid (show signIS a=1 by
     have hv:val (mag a)≠0:=by
      intro e
      apply h0
      have h3:=dec_mag h1
      rw [e,dec_zero,h2.1] at h3
      exact h3
     rw [signIS,if_pos h1,valI_sg,hn,sg_false,ordI,if_neg (by omega),if_pos (by omega)])
    clear h0 h2 hn
    go_enter Tryz.func134,Tryz.ntmps134
    go_wp2_with fail
    refine (wright_ref_any _ _ hma).mono ?_;rintro e w' ⟨rfl,h⟩;obtain rfl:=h.symm
    go_wp2_with fail
    go_ret
    exact ⟨ret_int HR.out.symm,rfl⟩
   ·have h2:=neg_at hn
    have h45:(((at8 a 0).toNat:Int) == 45)=true:=by rw [h2.1];rfl
    have hp:=h2.2.1
    have HR:=Lib.hid (show signIS a = -1 by
     have hv:=val_pos_neg h1 hn
     rw [signIS,if_pos h1,valI_sg,hn,sg_true,ordI,if_pos (by omega)])
    clear h0 h2 hn
    go_enter Tryz.func134,Tryz.ntmps134
    go_wp2_with fail
    refine (wright_ref_any _ _ hma).mono ?_;rintro e w' ⟨rfl,h⟩;obtain rfl:=h.symm
    go_wp2_with fail
    go_ret
    exact ⟨ret_int HR.out.symm,rfl⟩
theorem ret_ssi {a b a' b':List UInt8} {c d:Int} (h:a=a') (h1:b=b') (h2:c=d):Ending.returned (.tuple #[.string (B a),.string (B b),.int .i64 c])=.returned (.tuple #[.string (B a'),.string (B b'),.int .i64 d]):=by rw [h,h1,h2]
theorem ns_one:ns 1=[1]:=by rw [ns_pos (by omega),show 1 / 10=0 from rfl,ns_zero]
theorem dig_one (w:World):DigAt (w.alloc (.cells #[.int .i64 1] 3)) (some ⟨w.heap.size,0,none⟩) 1 1:=by
 have h:=OwnS.lit w 3 #[.int .i64 1] w.heap.size 1 (Nat.le_refl _) rfl (by unfold maxLen;omega)
 refine ⟨?_,by rw [ns_one];exact Nat.le_refl _,by unfold maxLen;omega⟩
 rw [ns_one];exact h.cells
theorem divI_err {a b:Str} (he:errI a b≠0):divIQ a b=[]∧divIR a b=[]∧divIE a b=errI a b:=by
 have h:divIE a b=errI a b:=if_neg he
 exact ⟨if_neg (by rw [h];exact he),if_neg (by rw [h];exact he),h⟩
theorem divI_zero {a b:Str} (he:errI a b=0) (hb:valI b=0):divIQ a b=[]∧divIR a b=[]∧divIE a b=10:=by
 have h:divIE a b=10:=by rw [divIE,if_pos he,if_pos hb]
 exact ⟨if_neg (by rw [h];decide),if_neg (by rw [h];decide),h⟩
theorem divI_ok {a b:Str} (he:errI a b=0) (hb:valI b≠0):divIQ a b=decI (qI (valI a) (valI b))∧divIR a b=decI (rI (valI a) (valI b))∧divIE a b=0:=by
 have h:divIE a b=0:=by rw [divIE,if_pos he,if_neg hb]
 exact ⟨if_pos h,if_pos h,h⟩
set_option maxHeartbeats 2000000 in
theorem wrdiv_any (a b:List UInt8) (w:World) (ha:a.length≤1000000) (hb:b.length≤1000000) :
  Calls Tryz.prog 98 #[.string (B a),.string (B b)] w fun e w'=>e=.returned (.tuple #[.string (B (divIQ a b)),.string (B (divIR a b)),.int .i64 (divIE a b)])∧Below w.heap.size w w':=by
 have hma:a.length≤maxLen:=by unfold maxLen;omega
 have hmb:b.length≤maxLen:=by unfold maxLen;omega
 by_cases he:errI a b=0
 ·obtain ⟨h1,h2,h3,h4⟩:=errI_zero.1 he
  obtain ⟨hla,hlb⟩:=errI_len he
  have HE:=Lib.hid he
  have HA:=Lib.hid (valI_sg a)
  have HB:=Lib.hid (valI_sg b)
  have HZ:=Lib.hid (fun hb=>divI_zero (a:=a) (b:=b) he hb)
  have HO:=Lib.hid (fun hb=>divI_ok (a:=a) (b:=b) he hb)
  go_enter Tryz.func98,Tryz.ntmps98
  go_wp2_with fail
  refine (wcheck_any a b w hma hmb).mono ?_;rw [HE.out];rintro e w' ⟨rfl,h⟩
  obtain rfl:=h.symm
  go_wp2_with fail
  refine (wparts_any a w ha h1).mono ?_
  rintro e w1 ⟨A1,c1,rfl,hd1,hb1⟩
  go_wp2_with fail
  refine (wparts_any b w1 hb h2).mono ?_
  rintro e w2 ⟨A2,c2,rfl,hd2,hb2⟩
  have hd1':=hd1.below hb2
  have hb12:=hb1.trans (hb2.mono hb1.size)
  clear hd1 he
  generalize val (mag a)=x at *
  generalize val (mag b)=y at *
  by_cases hy:y=0
  ·have HR:=Lib.hid (HZ.out (by rw [HB.out,hy,sg_zero]))
   have hy0:(((ns y).length:Int) == 0)=true:=by rw [hy,ns_zero];rfl
   clear hy
   go_wp2_with fail
   go_ret3
   exact ⟨ret_ssi HR.out.1.symm HR.out.2.1.symm HR.out.2.2.symm,hb12⟩
  have hyp:0<y:=by omega
  have hy0:(((ns y).length:Int) == 0)=false:=by
   rw [beq_eq_false_iff_ne]
   intro e
   have:(ns y).length=0:=by omega
   exact hy (ns_eq_nil.1 (List.eq_nil_of_length_eq_zero this))
  have HR:=Lib.hid (HO.out (by
   rw [HB.out];intro e
   have:=congrArg Int.natAbs e
   rw [sg_abs] at this;exact hy this))
  have hlq:(ns (x / y)).length≤4096:=Nat.le_trans (ns_length_mono (Nat.div_le_self x y)) hla
  have hlr:(ns (x % y)).length≤4096:=Nat.le_trans (ns_length_mono (Nat.le_of_lt (Nat.mod_lt x hyp))) hlb
  clear hy
  go_wp2_with fail
  refine (wdivide_any x y A1 A2 c1 c2 w2 hd1' hd2 (by omega) (by omega) hyp).mono ?_
  rintro e w3 ⟨A3,c3,A4,c4,rfl,hd3,hd4,hb3⟩
  have hb13:=hb12.trans (hb3.mono hb12.size)
  have hd2':=hd2.below hb3
  clear hd1'
  generalize neg? a=sa at *
  generalize neg? b=sb at *
  have hsel:(sa=sb)∨((sa=true∧sb=false)∨(sa=false∧sb=true)):=by cases sa <;> cases sb <;> simp
  by_cases hmn:sa=sb
  ·have HQ:=Lib.hid (div_same sb (x:=x) (y:=y) hyp)
   have HMN:=Lib.hid hmn
   have HT1:=Lib.hid (fun w hd=>wtext_num false (x / y) A3 c3 w hd (by omega))
   have HT2:=Lib.hid (fun w hd=>wtext_num sb (x % y) A4 c4 w hd (by omega))
   clear hsel hmn
   generalize x / y=q at *
   generalize x % y=r at *
   have hss:=HMN.out
   subst hss
   cases sa
   all_goals
    go_wp2_with fail
    refine (HT1.out w3 hd3).mono ?_
    rintro e w4 ⟨rfl,hb4⟩
    have hb14:=hb13.trans (hb4.mono hb13.size)
    go_wp2_with fail
    refine (HT2.out w4 (hd4.below hb4)).mono ?_
    rintro e w5 ⟨rfl,hb5⟩
    go_wp2_with fail
    go_ret3
    exact ⟨ret_ssi (by rw [HR.out.1,HA.out,HB.out,HQ.out.1];rfl) (by rw [HR.out.2.1,HA.out,HB.out,HQ.out.2]) HR.out.2.2.symm,hb14.trans (hb5.mono hb14.size)⟩
  ·by_cases hr0:x % y=0
   ·have HQ:=Lib.hid (div_exact hmn hyp hr0)
    have HT1:=Lib.hid (fun w hd=>wtext_num true (x / y) A3 c3 w hd (by omega))
    have HT2:=Lib.hid (fun w hd=>wtext_num sb (x % y) A4 c4 w hd (by omega))
    have HR0:=Lib.hid hr0
    have hz:decide (0<(ns (x % y)).length)=false:=by rw [hr0,ns_zero];simp
    have hz':¬ (0:Int)<((ns (x % y)).length:Int):=by rw [hr0,ns_zero];simp
    have hsel2:(sa=true∧sb=false)∨(sa=false∧sb=true):=by rcases hsel with h | h;exact absurd h hmn;exact h
    clear hsel hmn hr0
    generalize x / y=q at *
    generalize x % y=r at *
    rcases hsel2 with ⟨rfl,rfl⟩ | ⟨rfl,rfl⟩
    all_goals
     go_wp2_with fail
     refine (HT1.out w3 hd3).mono ?_
     rintro e w4 ⟨rfl,hb4⟩
     have hb14:=hb13.trans (hb4.mono hb13.size)
     go_wp2_with fail
     refine (HT2.out w4 (hd4.below hb4)).mono ?_
     rintro e w5 ⟨rfl,hb5⟩
     go_wp2_with fail
     go_ret3
     exact ⟨ret_ssi (by rw [HR.out.1,HA.out,HB.out,HQ.out.1]) (by rw [HR.out.2.1,HA.out,HB.out,HQ.out.2,HR0.out,sg_zero]) HR.out.2.2.symm,hb14.trans (hb5.mono hb14.size)⟩
   ·have HQ:=Lib.hid (div_other hmn hyp hr0)
    have hrn:0<(ns (x % y)).length:=List.length_pos_iff.2 (fun e=>hr0 (ns_eq_nil.1 e))
    have hrp:(0:Int)<((ns (x % y)).length:Int):=by omega
    have hrd:decide (0<(ns (x % y)).length)=true:=by simpa using hrn
    have hl1:=ns_add_len (a:=x / y) (b:=1) (k:=4096) hlq (by rw [ns_one];simp)
    have hl2:(ns (y - x % y)).length≤4096:=Nat.le_trans (ns_length_mono (by omega)) hlb
    have hle:x % y≤y:=Nat.le_of_lt (Nat.mod_lt x hyp)
    have HP:=Lib.hid (fun A c w hd=>wplus_any (x / y) 1 A3 A c3 c w hd)
    have HM:=Lib.hid (fun w hy hr=>wminus_any y (x % y) A2 A4 c2 c4 w hy hr (by omega) hle)
    have HT1:=Lib.hid (fun A c w hd=>wtext_num true (x / y+1) A c w hd (by omega))
    have HT2:=Lib.hid (fun A c w hd=>wtext_num sb (y - x % y) A c w hd (by omega))
    have hd1o:=dig_one w3
    have hl1':(ns 1).length=1:=by rw [ns_one];rfl
    have HL1:=Lib.hid hl1'
    have hal:Below w3.heap.size w3 (w3.alloc (.cells #[.int .i64 1] 3)):=(Below.refl _ _).alloc (Nat.le_refl _) _
    have hsel2:(sa=true∧sb=false)∨(sa=false∧sb=true):=by rcases hsel with h | h;exact absurd h hmn;exact h
    clear hsel hmn hr0 hl1'
    generalize x / y+1=q1 at *
    generalize y - x % y=r1 at *
    generalize x / y=q at *
    generalize x % y=r at *
    rcases hsel2 with ⟨rfl,rfl⟩ | ⟨rfl,rfl⟩
    all_goals
     go_wp2_with fail
     have hP:=HP.out (some ⟨w3.heap.size,0,none⟩) 1 _ (hd3.below hal) hd1o (by omega) (by rw [HL1.out];omega)
     rw [HL1.out] at hP
     refine hP.mono ?_
     rintro e w4 ⟨A5,c5,rfl,hd5,hb4⟩
     have hbx:Below w3.heap.size w3 w4:=hal.trans (hb4.mono hal.size)
     have hb14:=hb13.trans (hbx.mono hb13.size)
     clear hP hb4
     go_wp2_with fail
     refine (HM.out w4 (hd2'.below hbx) (hd4.below hbx)).mono ?_
     rintro e w5 ⟨A6,c6,rfl,hd6,_,hb5⟩
     have hb15:=hb14.trans (hb5.mono hb14.size)
     have hd5':=hd5.below hb5
     go_wp2_with fail
     refine (HT1.out A5 c5 w5 hd5').mono ?_
     rintro e w6 ⟨rfl,hb6⟩
     have hb16:=hb15.trans (hb6.mono hb15.size)
     go_wp2_with fail
     refine (HT2.out A6 c6 w6 (hd6.below hb6)).mono ?_
     rintro e w7 ⟨rfl,hb7⟩
     go_wp2_with fail
     go_ret3
     exact ⟨ret_ssi (by rw [HR.out.1,HA.out,HB.out,HQ.out.1]) (by rw [HR.out.2.1,HA.out,HB.out,HQ.out.2]) HR.out.2.2.symm,hb16.trans (hb7.mono hb16.size)⟩
 ·have HR:=Lib.hid (divI_err he)
  have hne:(errI a b != 0)=true:=by simpa using he
  clear he
  go_enter Tryz.func98,Tryz.ntmps98
  go_wp2_with fail
  refine (wcheck_any a b w hma hmb).mono ?_;rintro e w' ⟨rfl,h⟩
  obtain rfl:=h.symm
  go_wp2_with fail
  go_ret3
  exact ⟨ret_ssi HR.out.1.symm HR.out.2.1.symm HR.out.2.2.symm,Below.refl _ _⟩
theorem of_step (x:Int) (zs:List Nat) (k N d:Nat) (hz:zs.length=k) (h:N=lw zs+10 ^ k*x.natAbs) (hd:d=x.natAbs % 10) :
  N=lw (zs ++ [d])+10 ^ (k+1)*(Int.tdiv x 10).natAbs:=by
 rw [lw_snoc,hz,tdiv_abs,hd,h,Nat.pow_succ,Nat.mul_assoc,Nat.add_assoc,← Nat.mul_add]
 congr 2;omega
theorem of_small {k N:Nat} {x:Int} {L:Nat} (h:N=L+10 ^ k*x.natAbs) (hN:N≤9223372036854775808) (hx:x≠0):k≤18:=by
 rcases Nat.lt_or_ge 18 k with h1 | h1
 ·have h2:10 ^ 19≤10 ^ k:=Nat.pow_le_pow_right (by omega) (by omega)
  have h3:10 ^ k*1≤10 ^ k*x.natAbs:=Nat.mul_le_mul_left _ (by omega)
  omega
 ·exact h1
theorem sg_neg (z:Int):sg (decide (z<0)) z.natAbs=z:=by
 by_cases h:z<0
 ·simp [h,sg];omega
 ·simp [h,sg];omega
set_option maxHeartbeats 1000000 in
theorem wrof_any (z:Int) (w:World) (hz:fits z) :
  Calls Tryz.prog 60 #[.int .i64 z] w fun e w'=>e=.returned (.string (B (decI z)))∧Below w.heap.size w w':=by
 obtain ⟨hz1,hz2⟩:=hz
 have HS:=Lib.hid (sg_neg z)
 have hN:z.natAbs≤9223372036854775808:=by omega
 generalize hng:decide (z<0)=ng at *
 have HNG:=Lib.hid hng
 obtain ⟨N,hNN⟩:∃ N,N=z.natAbs:=⟨_,rfl⟩
 rw [← hNN] at hN
 have HN:=Lib.hid hNN
 clear hNN
 go_enter Tryz.func60,Tryz.ntmps60
 simp only [B_mk]
 go_wp2_with fail
 go_loopw [0,3,5] (fun n v _ wr=>∃ (x:Int) (k:Nat) (zs:List Nat) (A:Option Addr) (c:Nat),n=.int .i64 x∧v=.slice A k c ∧ -9223372036854775808≤x∧x≤9223372036854775807∧zs.length=k∧digl zs∧k≤19∧N=lw zs+10 ^ k*x.natAbs∧OwnS wr w.heap.size 3 A k c (nums zs)∧Below w.heap.size w wr) (fun n _ _ _=>(intOf n).natAbs)
 case atStart=>exact ⟨z,0,[],none,0,rfl,rfl,hz1,hz2,rfl,digl_nil,by omega,by rw [HN.out];simp [lw],OwnS.nil _ _ _,Below.refl _ _⟩
 case round =>
  obtain ⟨x,k,zs,A,c,rfl,rfl,hx1,hx2,hzl,hdz,hk,hv,hown,hbel⟩:=hrel
  by_cases h0:x=0
  ·have hval:lw zs=N:=by rw [hv,h0];simp
   have hW:=Lib.hid (wtext_any ng zs A c wr hdz (by omega) (by rw [hzl];exact hown.cap.1) hown.cap.2 hown.cells)
   have HV:=Lib.hid hval
   have HZL:=Lib.hid hzl
   have hx0:(x != 0)=false:=by simp [h0]
   clear hval hv hzl h0
   go_wp2_with fail
   have hw:=hW.out
   rw [HZL.out] at hw
   refine hw.mono ?_
   rintro e w1 ⟨rfl,hb1⟩
   go_wp2_with fail
   go_ret
   exact ⟨ret_str (by rw [HV.out,HN.out,HS.out]),hbel.trans (hb1.mono hbel.size)⟩
  ·have hx0:(x != 0)=true:=by simp [h0]
   have hk18:=of_small hv hN h0
   have hS:=Lib.hid (fun d=>of_step x zs k N d hzl hv)
   have TM:=Lib.hid (tmod_abs x)
   have TD:=Lib.hid (tdiv_abs x)
   have HZL:=Lib.hid hzl
   have H0:=Lib.hid h0
   have hq:Int.tdiv x 10≤9223372036854775807 ∧ -9223372036854775808≤Int.tdiv x 10:=by have:=TD.out;omega
   obtain ⟨hq1,hq2⟩:=hq
   have hm1:-9≤Int.tmod x 10:=by have:=TM.out;omega
   have hm2:Int.tmod x 10≤9:=by have:=TM.out;omega
   clear hv hzl h0
   by_cases hneg:Int.tmod x 10<0
   ·have HD:=Lib.hid (show ((x.natAbs % 10:Nat):Int) = -Int.tmod x 10 by have:=TM.out;omega)
    go_wp2_with (at_builtin;refine wp_app1 el_ints rfl _ _ rfl w.heap.size _ _ _ _ _ _ rfl hown rfl rfl (by unfold maxLen;omega) (by omega) hbel.size ?_;intro A3 c3 w3 hown3 hb3)
    go_roundw
    case rel =>
     refine ⟨Int.tdiv x 10,k+1,zs ++ [x.natAbs % 10],A3,c3,rfl,rfl,hq2,hq1,by simp [HZL.out],digl_snoc hdz (by omega),by omega,hS.out _ rfl,?_,hbel.trans hb3⟩
     rw [nums_snoc,HD.out];exact hown3
    case measure =>
     have h1:=TD.out
     have h2:=H0.out
     show (Int.tdiv x 10).natAbs<x.natAbs
     omega
   ·have HD:=Lib.hid (show ((x.natAbs % 10:Nat):Int)=Int.tmod x 10 by have:=TM.out;omega)
    go_wp2_with (at_builtin;refine wp_app1 el_ints rfl _ _ rfl w.heap.size _ _ _ _ _ _ rfl hown rfl rfl (by unfold maxLen;omega) (by omega) hbel.size ?_;intro A3 c3 w3 hown3 hb3)
    go_roundw
    case rel =>
     refine ⟨Int.tdiv x 10,k+1,zs ++ [x.natAbs % 10],A3,c3,rfl,rfl,hq2,hq1,by simp [HZL.out],digl_snoc hdz (by omega),by omega,hS.out _ rfl,?_,hbel.trans hb3⟩
     rw [nums_snoc,HD.out];exact hown3
    case measure =>
     have h1:=TD.out
     have h2:=H0.out
     show (Int.tdiv x 10).natAbs<x.natAbs
     omega
end Go.Proofs.YtmppmdmekomjbaaGreatDoor

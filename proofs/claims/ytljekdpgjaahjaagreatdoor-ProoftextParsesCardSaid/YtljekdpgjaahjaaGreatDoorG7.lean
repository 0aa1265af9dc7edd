/- The reference of whole: sum, Add, Sub, Mul, Neg, Abs, Compare, Sign. -/
import Derived.Test.YtljekdpgjaahjaaGreatDoorG6
namespace Go.Proofs.YtljekdpgjaahjaaGreatDoor
open Go.RowKit Num
set_option linter.unusedVariables false
attribute [local go_sem] B_size B_get B_toList B_mk B_extract B_append
attribute [local go_sem high] run_max2
theorem ns_add_len {a b k:Nat} (ha:(ns a).length≤k) (hb:(ns b).length≤k):(ns (a+b)).length≤k+1:=by
 have h1:=ns_length_le.1 ha
 have h2:=ns_length_le.1 hb
 refine ns_length_le.2 ?_
 rw [Nat.pow_succ];omega
theorem ns_mul_len {a b k m:Nat} (ha:(ns a).length≤k) (hb:(ns b).length≤m):(ns (a*b)).length≤k+m:=by
 have h1:=ns_length_le.1 ha
 have h2:=ns_length_le.1 hb
 refine ns_length_le.2 ?_
 rw [Nat.pow_add]
 rcases Nat.eq_zero_or_pos b with h0 | h0
 ·subst h0;rw [Nat.mul_zero];exact Nat.mul_pos (Nat.pow_pos (by omega)) (Nat.pow_pos (by omega))
 ·exact Nat.lt_of_lt_of_le (Nat.mul_lt_mul_of_pos_right h1 h0) (Nat.mul_le_mul_left _ (Nat.le_of_lt h2))
theorem ns_le_len {a k:Nat} {l:Str} (h:right l=true) (hl:l.length≤k) (ha:a≤val l):(ns a).length≤k:=by
 refine ns_length_le.2 ?_
 have:=val_lt_len h
 have:=Nat.pow_le_pow_right (show 0<10 by omega) hl
 omega
theorem dec_len_ns (n:Nat):(dec n).length≤(ns n).length+1:=by
 by_cases h:n=0
 ·subst h;rw [dec_zero];simp
 ·rw [ns_len h];omega
theorem decI_len {z:Int} {k:Nat} (h:(ns z.natAbs).length≤k):(decI z).length≤k+2:=by
 have h1:=mag_length_decI z
 have h2:=dec_len_ns z.natAbs
 omega
theorem sg_add_abs (m n:Bool) (a b:Nat):(sg m a+sg n b).natAbs≤a+b:=by cases m <;> cases n <;> simp [sg] <;> omega
theorem wtext_num (neg:Bool) (v:Nat) (A:Option Addr) (c:Nat) (w:World) (hd:DigAt w A c v) (hl:(ns v).length≤1000000) :
  Calls Tryz.prog 128 #[.bool neg,.slice A (ns v).length c] w fun e w'=>e=.returned (.string (B (decI (sg neg v))))∧Below w.heap.size w w':=by
 have h:=wtext_any neg (ns v) A c w (digl_ns v) hl hd.le hd.cap hd.cells
 rwa [lw_ns] at h
theorem ret_si {a b:List UInt8} {c d:Int} (h:a=b) (h2:c=d):Ending.returned (.tuple #[.string (B a),.int .i64 c])=.returned (.tuple #[.string (B b),.int .i64 d]):=by rw [h,h2]
theorem errI_len {a b:Str} (he:errI a b=0):(ns (val (mag a))).length≤4096∧(ns (val (mag b))).length≤4096:=by
 obtain ⟨h1,h2,h3,h4⟩:=errI_zero.1 he
 exact ⟨ns_le_len (right_mag h1) h3 (Nat.le_refl _),ns_le_len (right_mag h2) h4 (Nat.le_refl _)⟩
set_option maxHeartbeats 1000000 in
theorem wrabs_any (a:List UInt8) (w:World) (ha:a.length≤1000000) :
  Calls Tryz.prog 100 #[.string (B a)] w fun e w'=>e=.returned (.tuple #[.string (B (absIS a)),.int .i64 (errI a a)])∧Below w.heap.size w w':=by
 have hma:a.length≤maxLen:=by unfold maxLen;omega
 by_cases he:errI a a=0
 ·have HR:=Lib.hid (show absIS a=decI ((valI a).natAbs:Int) from if_pos he)
  obtain ⟨h1,h2,h3,h4⟩:=errI_zero.1 he
  obtain ⟨hla,hlb⟩:=errI_len he
  have HE:=Lib.hid he
  have HZ:=Lib.hid (show sg false (val (mag a))=((valI a).natAbs:Int) by rw [abs_valI];rfl)
  clear he
  go_enter Tryz.func100,Tryz.ntmps100
  go_wp2_with fail
  refine (wcheck_any a a w hma hma).mono ?_;rw [HE.out];rintro e w' ⟨rfl,h⟩
  obtain rfl:=h.symm
  go_wp2_with fail
  refine (wparts_any a w ha h1).mono ?_
  rintro e w1 ⟨A1,c1,rfl,hd1,hb1⟩
  go_wp2_with fail
  refine (wtext_num _ _ A1 c1 w1 hd1 (by omega)).mono ?_
  rintro e w2 ⟨rfl,hb2⟩
  go_wp2_with fail
  go_ret2
  exact ⟨ret_si (by rw [HR.out,HZ.out]) HE.out.symm,hb1.trans (hb2.mono hb1.size)⟩
 ·have HR:=Lib.hid (show absIS a=[] from if_neg he)
  have hne:(errI a a != 0)=true:=by simpa using he
  clear he
  go_enter Tryz.func100,Tryz.ntmps100
  go_wp2_with fail
  refine (wcheck_any a a w hma hma).mono ?_;rintro e w' ⟨rfl,h⟩
  obtain rfl:=h.symm
  go_wp2_with fail
  go_ret2
  exact ⟨ret_si HR.out.symm rfl,Below.refl _ _⟩
theorem ordI_nn (x y:Nat):ordI (-(x:Int)) (-(y:Int))=ordI y x:=by unfold ordI;split <;> split <;> (try split) <;> omega
theorem val_pos_neg {a:Str} (h:rightI a=true) (hn:neg? a=true):0<val (mag a):=by
 rcases Nat.eq_zero_or_pos (val (mag a)) with h0 | h0
 ·have h1:=dec_mag h
  rw [h0,dec_zero] at h1
  unfold rightI at h
  rw [hn,h1] at h
  simp at h
 ·exact h0
theorem cmp_pp {a b:Str} (h1:rightI a=true) (h2:rightI b=true) (hn:neg? a=false) (hm:neg? b=false):cmpIS a b=ordI (val (mag a)) (val (mag b)):=by
 rw [cmpIS,if_pos ⟨h1,h2⟩,valI_sg,valI_sg,hn,hm];rfl
theorem cmp_nn {a b:Str} (h1:rightI a=true) (h2:rightI b=true) (hn:neg? a=true) (hm:neg? b=true):cmpIS a b=ordI (val (mag b)) (val (mag a)):=by
 rw [cmpIS,if_pos ⟨h1,h2⟩,valI_sg,valI_sg,hn,hm,sg_true,sg_true,ordI_nn]
theorem cmp_np {a b:Str} (h1:rightI a=true) (h2:rightI b=true) (hn:neg? a=true) (hm:neg? b=false):cmpIS a b = -1:=by
 have:=val_pos_neg h1 hn
 rw [cmpIS,if_pos ⟨h1,h2⟩,valI_sg,valI_sg,hn,hm,sg_true,sg_false,ordI,if_pos (by omega)]
theorem cmp_pn {a b:Str} (h1:rightI a=true) (h2:rightI b=true) (hn:neg? a=false) (hm:neg? b=true):cmpIS a b=1:=by
 have:=val_pos_neg h2 hm
 rw [cmpIS,if_pos ⟨h1,h2⟩,valI_sg,valI_sg,hn,hm,sg_true,sg_false,ordI,if_neg (by omega),if_pos (by omega)]
theorem ret_ssi {a b a' b':List UInt8} {c d:Int} (h:a=a') (h1:b=b') (h2:c=d):Ending.returned (.tuple #[.string (B a),.string (B b),.int .i64 c])=.returned (.tuple #[.string (B a'),.string (B b'),.int .i64 d]):=by rw [h,h1,h2]
theorem ns_one:ns 1=[1]:=by rw [ns_pos (by omega),show 1 / 10=0 from rfl,ns_zero]
theorem dig_one (w:World):DigAt (w.alloc (.cells #[.int .i64 1] 3)) (some ⟨w.heap.size,0,none⟩) 1 1:=by
 have h:=OwnS.lit w 3 #[.int .i64 1] w.heap.size 1 (Nat.le_refl _) rfl (by unfold maxLen;omega)
 refine ⟨?_,by rw [ns_one];exact Nat.le_refl _,by unfold maxLen;omega⟩
 rw [ns_one];exact h.cells
theorem divI_err {a b:Str} (he:errI a b≠0):divIQ a b=[]∧divIR a b=[]∧divIE a b=errI a b:=by
 have h:divIE a b=errI a b:=if_neg he
 exact ⟨if_neg (by rw [h];exact he),if_neg (by rw [h];exact he),h⟩
theorem divI_zero {a b:Str} (he:errI a b=0) (hb:valI b=0):divIQ a b=[]∧divIR a b=[]∧divIE a b=10:=by
 have h:divIE a b=10:=by rw [divIE,if_pos he,if_pos hb]
 exact ⟨if_neg (by rw [h];decide),if_neg (by rw [h];decide),h⟩
theorem divI_ok {a b:Str} (he:errI a b=0) (hb:valI b≠0):divIQ a b=decI (qI (valI a) (valI b))∧divIR a b=decI (rI (valI a) (valI b))∧divIE a b=0:=by
 have h:divIE a b=0:=by rw [divIE,if_pos he,if_neg hb]
 exact ⟨if_pos h,if_pos h,h⟩
theorem ret_ii' {a b c d:Int} (h:a=b) (h2:c=d):Ending.returned (.tuple #[.int .i64 a,.int .i64 c])=.returned (.tuple #[.int .i64 b,.int .i64 d]):=by rw [h,h2]
theorem of_step (x:Int) (zs:List Nat) (k N d:Nat) (hz:zs.length=k) (h:N=lw zs+10 ^ k*x.natAbs) (hd:d=x.natAbs % 10) :
  N=lw (zs ++ [d])+10 ^ (k+1)*(Int.tdiv x 10).natAbs:=by
 rw [lw_snoc,hz,tdiv_abs,hd,h,Nat.pow_succ,Nat.mul_assoc,Nat.add_assoc,← Nat.mul_add]
 congr 2;omega
theorem of_small {k N:Nat} {x:Int} {L:Nat} (h:N=L+10 ^ k*x.natAbs) (hN:N≤9223372036854775808) (hx:x≠0):k≤18:=by
 rcases Nat.lt_or_ge 18 k with h1 | h1
 ·have h2:10 ^ 19≤10 ^ k:=Nat.pow_le_pow_right (by omega) (by omega)
  have h3:10 ^ k*1≤10 ^ k*x.natAbs:=Nat.mul_le_mul_left _ (by omega)
  omega
 ·exact h1
theorem sg_neg (z:Int):sg (decide (z<0)) z.natAbs=z:=by
 by_cases h:z<0
 ·simp [h,sg];omega
 ·simp [h,sg];omega
theorem int_long {s:Str} (h:rightI s=true) (hl:19<(mag s).length):¬ fits (valI s):=by
 have hr:=right_mag h
 have h1:10 ^ 19≤val (mag s):=by
  rcases Nat.lt_or_ge (val (mag s)) (10 ^ 19) with h2 | h2
  ·have:=(length_dec_le (n:=val (mag s)) (k:=19) (by omega)).2 h2
   rw [dec_val hr] at this;omega
  ·exact h2
 intro hf
 obtain ⟨h2,h3⟩:=hf
 have h4:=abs_valI s
 omega
theorem int_step {xs:List Nat} {j:Nat} (hj:j<xs.length):lw (xs.drop j)=atN xs j+10*lw (xs.drop (j+1)):=lw_drop xs j hj
theorem lw_drop_le (xs:List Nat) (j:Nat):lw (xs.drop j)≤lw xs:=by
 have:=lw_append (xs.take j) (xs.drop j)
 rw [List.take_append_drop] at this
 rcases Nat.eq_zero_or_pos (lw (xs.drop j)) with h | h
 ·omega
 ·have h1:=Nat.pow_pos (n:=(xs.take j).length) (show 0<10 by omega)
  have h2:1*lw (xs.drop j)≤10 ^ (xs.take j).length*lw (xs.drop j):=Nat.mul_le_mul_right _ h1
  omega
end Go.Proofs.YtljekdpgjaahjaaGreatDoor

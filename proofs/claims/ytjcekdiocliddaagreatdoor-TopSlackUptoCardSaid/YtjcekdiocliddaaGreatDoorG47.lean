/- ratio: digits, split, Right. (Printed by wip/rprog.py.) -/
import Derived.Test.YtjcekdiocliddaaGreatDoorG46
import Derived.Test.YtjcekdiocliddaaGreatDoorG12
import Derived.Test.YtjcekdiocliddaaGreatDoorG9
import Derived.Handy
namespace Go.Proofs.YtjcekdiocliddaaGreatDoor
open Go.RowKit Num
set_option linter.unusedVariables false
attribute [local go_sem] B_size B_get B_toList B_mk B_extract B_append
attribute [local go_sem high] run_max2
def MaxV (w:World):Prop:=∃ m,w.cell? ⟨0,0,none⟩=some (.int .i64 m)
theorem MaxV.below {w w':World} (h:MaxV w) (hb:Below w.heap.size w w'):MaxV w':=by
 obtain ⟨m,h⟩:=h
 refine ⟨m,?_⟩
 rw [← h]
 refine hb.cell (p:=⟨0,0,none⟩) ?_
 rcases Nat.lt_or_ge 0 w.heap.size with h' | h'
 ·exact h'
 ·unfold World.cell? at h
  simp only at h
  rw [Array.getElem?_eq_none h'] at h
  simp at h
def Env (w:World):Prop:=Tab w∧MaxV w
theorem Env.below {w w':World} (h:Env w) (hb:Below w.heap.size w w'):Env w':=⟨h.1.below hb,h.2.below hb⟩
theorem trimp_any (l:List UInt8) (w:World):Calls Tryz.prog 153 #[.string (B l),.string (B [45])] w fun e w'=>e=.returned (.string (B (mag l)))∧w'=w:=by
 refine (Tryz.strings_TrimPrefix (B l) (B [45]) w).mono ?_
 rintro e w' ⟨rfl,rfl⟩
 refine ⟨?_,rfl⟩
 rw [show (B l).data.toList=l from by simp [B],show (B [45]).data.toList=[45] from rfl,trim_mag];rfl
def restS (l:Str):Str:=if hasS l=true then postS l else []
theorem cutq_any (l:List UInt8) (w:World) (hl:l.length≤1000000) (hm:MaxV w) :
  Calls Tryz.prog 173 #[.string (B l),.string (B [47])] w fun e w'=>e=.returned (.tuple #[.string (B (numT l)),.string (B (restS l)),.bool (hasS l)])∧Below w.heap.size w w':=by
 obtain ⟨m,hm⟩:=hm
 refine (Tryz.strings_Cut (B l) (B [47]) m w (by rw [B_size];omega) hm).mono ?_
 rintro e w' ⟨rfl,n,rfl⟩
 refine ⟨?_,below_drewN (Below.refl _ _) n⟩
 rw [show (B l).data.toList=l from by simp [B],show (B [47]).data.toList=[47] from rfl,cut_slash]
 unfold numT restS
 by_cases h:hasS l=true
 ·rw [if_pos h,if_pos h,if_pos h,h];rfl
 ·rw [if_neg h,if_neg h,if_neg h];simp at h;rw [h];rfl
theorem containsq_any (l:List UInt8) (w:World) (hl:l.length≤1000000) (hm:MaxV w) :
  Calls Tryz.prog 171 #[.string (B l),.string (B [47])] w fun e w'=>e=.returned (.bool (hasS l))∧Below w.heap.size w w':=by
 obtain ⟨m,hm⟩:=hm
 refine (Tryz.strings_Contains (B l) (B [47]) m w (by rw [B_size];omega) hm).mono ?_
 rintro e w' ⟨rfl,h⟩
 refine ⟨?_,by first | (obtain ⟨n,rfl⟩:=h;exact below_drewN (Below.refl _ _) n) | (subst h;exact Below.refl _ _)⟩
 rw [show (B l).data.toList=l from by simp [B],show (B [47]).data.toList=[47] from rfl,contains_slash]
theorem qdigits_any (l:List UInt8) (w:World) (hs:l.length≤maxLen) :
  Calls Tryz.prog 170 #[.string (B l)] w fun e w'=>e=.returned (.int .i64 ((mag l).length:Int))∧w'=w:=by
 have hml:=mag_length l
 unfold maxLen at hs
 go_enter Tryz.func170,Tryz.ntmps170
 simp only [B_mk]
 go_wp2_with fail
 refine (trimp_any l w).mono ?_;rintro e w' ⟨rfl,h⟩;obtain rfl:=h.symm
 go_wp2_with fail
 go_ret
 exact ⟨rfl,rfl⟩
theorem ret_ss {a b a' b':List UInt8} (h:a=a') (h1:b=b'):Ending.returned (.tuple #[.string (B a),.string (B b)])=.returned (.tuple #[.string (B a'),.string (B b')]):=by rw [h,h1]
theorem qsplit_any (l:List UInt8) (w:World) (hl:l.length≤1000000) (hm:MaxV w) :
  Calls Tryz.prog 150 #[.string (B l)] w fun e w'=>e=.returned (.tuple #[.string (B (numT l)),.string (B (denT l))])∧Below w.heap.size w w':=by
 have HC:=Lib.hid (cutq_any l w hl hm)
 cases hh:hasS l
 ·have HD:=Lib.hid (show denT l=[49] by unfold denT;rw [hh];rfl)
  go_enter Tryz.func150,Tryz.ntmps150
  simp only [B_mk]
  go_wp2_with fail
  refine HC.out.mono ?_
  rintro e w1 ⟨rfl,hb1⟩
  go_wp2_with fail
  go_ret2
  exact ⟨ret_ss rfl HD.out.symm,hb1⟩
 ·have HD:=Lib.hid (show denT l=restS l by unfold denT restS;rw [hh];rfl)
  go_enter Tryz.func150,Tryz.ntmps150
  simp only [B_mk]
  go_wp2_with fail
  refine HC.out.mono ?_
  rintro e w1 ⟨rfl,hb1⟩
  go_wp2_with fail
  go_ret2
  exact ⟨ret_ss rfl HD.out.symm,hb1⟩
theorem numT_len (l:Str):(numT l).length≤l.length:=by
 unfold numT
 by_cases h:hasS l=true
 ·rw [if_pos h];have:=congrArg List.length (split_has h).1;rw [List.length_append] at this;omega
 ·rw [if_neg h];exact Nat.le_refl _
theorem denT_len (l:Str):(denT l).length≤l.length+1:=by
 unfold denT
 by_cases h:hasS l=true
 ·rw [if_pos h];have:=congrArg List.length (split_has h).1;rw [List.length_append,List.length_cons] at this;omega
 ·rw [if_neg h];simp
theorem rq_den {l:Str} (h:hasS l=false):denT l=[49]:=by unfold denT;rw [h];rfl
theorem rq_no1 {l:Str} (h:rightI (numT l)=false):rightQ l=false:=by unfold rightQ;rw [h];rfl
theorem rq_no2 {l:Str} (h:4096<(mag (numT l)).length):rightQ l=false:=by
 unfold rightQ
 have:decide ((mag (numT l)).length≤4096)=false:=by simpa using h
 rw [this,Bool.and_false,Bool.false_and]
theorem mag_right {s:Str} (h:right s=true):mag s=s:=by
 rw [← dec_val h];exact mag_dec _
theorem rq_no3 {l:Str} (h:4096<(mag (denT l)).length):rightQ l=false:=by
 cases hh:hasS l
 ·rw [rq_den hh] at h;exact absurd h (by decide)
 ·unfold rightQ
  cases hr:right (denT l)
  ·rw [hh];simp
  ·rw [mag_right hr] at h
   have:decide ((denT l).length≤4096)=false:=by simpa using h
   rw [hh,this];simp
theorem rq_yes1 {l:Str} (h1:rightI (numT l)=true) (h2:(mag (numT l)).length≤4096) (h3:hasS l=false):rightQ l=true:=by
 unfold rightQ;rw [h1,h3];simp [h2]
theorem rq_no4 {l:Str} (h3:hasS l=true) (h:right (denT l)=false∨denT l=[48]∨denT l=[49]∨numT l=[48]):rightQ l=false:=by
 unfold rightQ
 rw [h3]
 rcases h with h | h | h | h
 ·rw [h];simp
 ·rw [h];simp
 ·rw [h];simp
 ·rw [h];simp
theorem rq_gcd {l:Str} (h1:rightI (numT l)=true) (h2:(mag (numT l)).length≤4096) (h3:hasS l=true) (h4:right (denT l)=true) (h5:(denT l).length≤4096) (h6:denT l≠[48]) (h7:denT l≠[49]) (h8:numT l≠[48]) :
  rightQ l=decide (Nat.gcd (val (mag (numT l))) (val (denT l))=1):=by
 unfold rightQ
 rw [h1,h3,h4]
 have e6:(denT l == [48])=false:=by simpa using h6
 have e7:(denT l == [49])=false:=by simpa using h7
 have e8:(numT l == [48])=false:=by simpa using h8
 simp [h2,h5,e6,e7,e8]
theorem gcd_dec {a b:Str} (h1:right a=true) (h2:right b=true) (h3:a.length≤4096) (h4:b.length≤4096) (h0:0<val b):gcdS a b=dec (Nat.gcd (val a) (val b))∧gcdE a b=0:=by
 have he:errT a b=0:=errT_zero.2 ⟨h1,h2,h3,h4⟩
 have hl:(dec (Nat.gcd (val a) (val b))).length≤4096:=by
  have:=length_dec_mono (Nat.gcd_le_right (val a) h0)
  rw [dec_val h2] at this;omega
 unfold gcdS gcdE
 rw [if_pos he,if_pos he]
 exact ⟨if_pos hl,if_pos hl⟩
set_option maxHeartbeats 2000000 in
theorem rq_any (l:List UInt8) (w:World) (hl:l.length≤1000000) (he:Env w) :
  Calls Tryz.prog 149 #[.string (B l)] w fun e w'=>e=.returned (.bool (rightQ l))∧Below w.heap.size w w':=by
 have hln:=numT_len l
 have hld:=denT_len l
 have HSP:=Lib.hid (qsplit_any l w hl he.2)
 have HCT:=Lib.hid (fun w hm=>containsq_any l w hl hm)
 have HR1:=Lib.hid (fun w=>wright_any (numT l) w (maxLen_le (by omega)))
 have HD1:=Lib.hid (fun w=>qdigits_any (numT l) w (maxLen_le (by omega)))
 have HD2:=Lib.hid (fun w=>qdigits_any (denT l) w (maxLen_le (by omega)))
 have HN:=Lib.hid (fun w=>right_any (denT l) w (maxLen_le (by omega)))
 have HG:=Lib.hid (fun w ht=>gcd_any (mag (numT l)) (denT l) w (maxLen_le (by have:=mag_length (numT l);omega)) (maxLen_le (by omega)) ht)
 have hmn:=mag_length (numT l)
 have hmd:=mag_length (denT l)
 cases h1:rightI (numT l)
 ·have HR:=Lib.hid (rq_no1 h1)
  go_enter Tryz.func149,Tryz.ntmps149
  simp only [B_mk]
  go_wp2_with fail
  refine HSP.out.mono ?_
  rintro e w1 ⟨rfl,hb1⟩
  go_wp2_with fail
  refine (HR1.out w1).mono ?_;rintro e w' ⟨rfl,h⟩;obtain rfl:=h.symm
  go_wp2_with fail
  go_ret
  exact ⟨ret_bool HR.out.symm,hb1⟩
 by_cases h2:4096<(mag (numT l)).length
 ·have h2':(4096:Int)<((mag (numT l)).length:Int):=by omega
  have HR:=Lib.hid (rq_no2 h2)
  go_enter Tryz.func149,Tryz.ntmps149
  simp only [B_mk]
  go_wp2_with fail
  refine HSP.out.mono ?_
  rintro e w1 ⟨rfl,hb1⟩
  go_wp2_with fail
  refine (HR1.out w1).mono ?_;rintro e w' ⟨rfl,h⟩;obtain rfl:=h.symm
  go_wp2_with fail
  refine (HD1.out w1).mono ?_;rintro e w' ⟨rfl,h⟩;obtain rfl:=h.symm
  go_wp2_with fail
  go_ret
  exact ⟨ret_bool HR.out.symm,hb1⟩
 have h2':¬ (4096:Int)<((mag (numT l)).length:Int):=by omega
 by_cases h3:4096<(mag (denT l)).length
 ·have h3':(4096:Int)<((mag (denT l)).length:Int):=by omega
  have HR:=Lib.hid (rq_no3 h3)
  go_enter Tryz.func149,Tryz.ntmps149
  simp only [B_mk]
  go_wp2_with fail
  refine HSP.out.mono ?_
  rintro e w1 ⟨rfl,hb1⟩
  go_wp2_with fail
  refine (HR1.out w1).mono ?_;rintro e w' ⟨rfl,h⟩;obtain rfl:=h.symm
  go_wp2_with fail
  refine (HD1.out w1).mono ?_;rintro e w' ⟨rfl,h⟩;obtain rfl:=h.symm
  go_wp2_with fail
  refine (HD2.out w1).mono ?_;rintro e w' ⟨rfl,h⟩;obtain rfl:=h.symm
  go_wp2_with fail
  go_ret
  exact ⟨ret_bool HR.out.symm,hb1⟩
 have h3':¬ (4096:Int)<((mag (denT l)).length:Int):=by omega
 cases h4:hasS l
 ·have HR:=Lib.hid (rq_yes1 h1 (by omega) h4)
  go_enter Tryz.func149,Tryz.ntmps149
  simp only [B_mk]
  go_wp2_with fail
  refine HSP.out.mono ?_
  rintro e w1 ⟨rfl,hb1⟩
  go_wp2_with fail
  refine (HR1.out w1).mono ?_;rintro e w' ⟨rfl,h⟩;obtain rfl:=h.symm
  go_wp2_with fail
  refine (HD1.out w1).mono ?_;rintro e w' ⟨rfl,h⟩;obtain rfl:=h.symm
  go_wp2_with fail
  refine (HD2.out w1).mono ?_;rintro e w' ⟨rfl,h⟩;obtain rfl:=h.symm
  go_wp2_with fail
  refine (HCT.out w1 (he.2.below hb1)).mono ?_
  rintro e w2 ⟨rfl,hb2⟩
  have a2:=hb1.trans (hb2.mono hb1.size)
  go_wp2_with fail
  go_ret
  exact ⟨ret_bool HR.out.symm,a2⟩
 cases h5:right (denT l)
 ·have HR:=Lib.hid (rq_no4 h4 (.inl h5))
  go_enter Tryz.func149,Tryz.ntmps149
  simp only [B_mk]
  go_wp2_with fail
  refine HSP.out.mono ?_
  rintro e w1 ⟨rfl,hb1⟩
  go_wp2_with fail
  refine (HR1.out w1).mono ?_;rintro e w' ⟨rfl,h⟩;obtain rfl:=h.symm
  go_wp2_with fail
  refine (HD1.out w1).mono ?_;rintro e w' ⟨rfl,h⟩;obtain rfl:=h.symm
  go_wp2_with fail
  refine (HD2.out w1).mono ?_;rintro e w' ⟨rfl,h⟩;obtain rfl:=h.symm
  go_wp2_with fail
  refine (HCT.out w1 (he.2.below hb1)).mono ?_
  rintro e w2 ⟨rfl,hb2⟩
  have a2:=hb1.trans (hb2.mono hb1.size)
  go_wp2_with fail
  refine (HN.out w2).mono ?_;rintro e w' ⟨rfl,h⟩;obtain rfl:=h.symm
  go_wp2_with fail
  go_ret
  exact ⟨ret_bool HR.out.symm,a2⟩
 by_cases h6:denT l=[48]
 ·have h6':(denT l == [48])=true:=by simpa using h6
  have HR:=Lib.hid (rq_no4 h4 (.inr (.inl h6)))
  clear h6
  go_enter Tryz.func149,Tryz.ntmps149
  simp only [B_mk]
  go_wp2_with fail
  refine HSP.out.mono ?_
  rintro e w1 ⟨rfl,hb1⟩
  go_wp2_with fail
  refine (HR1.out w1).mono ?_;rintro e w' ⟨rfl,h⟩;obtain rfl:=h.symm
  go_wp2_with fail
  refine (HD1.out w1).mono ?_;rintro e w' ⟨rfl,h⟩;obtain rfl:=h.symm
  go_wp2_with fail
  refine (HD2.out w1).mono ?_;rintro e w' ⟨rfl,h⟩;obtain rfl:=h.symm
  go_wp2_with fail
  refine (HCT.out w1 (he.2.below hb1)).mono ?_
  rintro e w2 ⟨rfl,hb2⟩
  have a2:=hb1.trans (hb2.mono hb1.size)
  go_wp2_with fail
  refine (HN.out w2).mono ?_;rintro e w' ⟨rfl,h⟩;obtain rfl:=h.symm
  go_wp2_with fail
  go_ret
  exact ⟨ret_bool HR.out.symm,a2⟩
 have h6':(denT l == [48])=false:=by simpa using h6
 by_cases h7:denT l=[49]
 ·have h7':(denT l == [49])=true:=by simpa using h7
  have HR:=Lib.hid (rq_no4 h4 (.inr (.inr (.inl h7))))
  clear h7 h6
  go_enter Tryz.func149,Tryz.ntmps149
  simp only [B_mk]
  go_wp2_with fail
  refine HSP.out.mono ?_
  rintro e w1 ⟨rfl,hb1⟩
  go_wp2_with fail
  refine (HR1.out w1).mono ?_;rintro e w' ⟨rfl,h⟩;obtain rfl:=h.symm
  go_wp2_with fail
  refine (HD1.out w1).mono ?_;rintro e w' ⟨rfl,h⟩;obtain rfl:=h.symm
  go_wp2_with fail
  refine (HD2.out w1).mono ?_;rintro e w' ⟨rfl,h⟩;obtain rfl:=h.symm
  go_wp2_with fail
  refine (HCT.out w1 (he.2.below hb1)).mono ?_
  rintro e w2 ⟨rfl,hb2⟩
  have a2:=hb1.trans (hb2.mono hb1.size)
  go_wp2_with fail
  refine (HN.out w2).mono ?_;rintro e w' ⟨rfl,h⟩;obtain rfl:=h.symm
  go_wp2_with fail
  go_ret
  exact ⟨ret_bool HR.out.symm,a2⟩
 have h7':(denT l == [49])=false:=by simpa using h7
 by_cases h8:numT l=[48]
 ·have h8':(numT l == [48])=true:=by simpa using h8
  have HR:=Lib.hid (rq_no4 h4 (.inr (.inr (.inr h8))))
  clear h8 h7 h6
  go_enter Tryz.func149,Tryz.ntmps149
  simp only [B_mk]
  go_wp2_with fail
  refine HSP.out.mono ?_
  rintro e w1 ⟨rfl,hb1⟩
  go_wp2_with fail
  refine (HR1.out w1).mono ?_;rintro e w' ⟨rfl,h⟩;obtain rfl:=h.symm
  go_wp2_with fail
  refine (HD1.out w1).mono ?_;rintro e w' ⟨rfl,h⟩;obtain rfl:=h.symm
  go_wp2_with fail
  refine (HD2.out w1).mono ?_;rintro e w' ⟨rfl,h⟩;obtain rfl:=h.symm
  go_wp2_with fail
  refine (HCT.out w1 (he.2.below hb1)).mono ?_
  rintro e w2 ⟨rfl,hb2⟩
  have a2:=hb1.trans (hb2.mono hb1.size)
  go_wp2_with fail
  refine (HN.out w2).mono ?_;rintro e w' ⟨rfl,h⟩;obtain rfl:=h.symm
  go_wp2_with fail
  go_ret
  exact ⟨ret_bool HR.out.symm,a2⟩
 have h8':(numT l == [48])=false:=by simpa using h8
 have hmd2:=mag_right h5
 have HR:=Lib.hid (rq_gcd h1 (by omega) h4 h5 (by rw [← hmd2];omega) h6 h7 h8)
 have hv0:0<val (denT l):=by
  rcases Nat.eq_zero_or_pos (val (denT l)) with h | h
  ·exfalso;apply h6;rw [← dec_val h5,h,dec_zero]
  ·exact h
 have HGD:=Lib.hid (gcd_dec (right_mag h1) h5 (by omega) (by rw [← hmd2];omega) hv0)
 clear hmd2 h6 h7 h8
 by_cases hg:Nat.gcd (val (mag (numT l))) (val (denT l))=1
 ·have hg':(dec (Nat.gcd (val (mag (numT l))) (val (denT l))) == [49])=true:=by rw [hg,dec_one];rfl
  have HR2:=Lib.hid (show rightQ l=true by rw [HR.out];exact decide_eq_true hg)
  clear HR hg
  have HR:=HR2
  go_enter Tryz.func149,Tryz.ntmps149
  simp only [B_mk]
  go_wp2_with fail
  refine HSP.out.mono ?_
  rintro e w1 ⟨rfl,hb1⟩
  go_wp2_with fail
  refine (HR1.out w1).mono ?_;rintro e w' ⟨rfl,h⟩;obtain rfl:=h.symm
  go_wp2_with fail
  refine (HD1.out w1).mono ?_;rintro e w' ⟨rfl,h⟩;obtain rfl:=h.symm
  go_wp2_with fail
  refine (HD2.out w1).mono ?_;rintro e w' ⟨rfl,h⟩;obtain rfl:=h.symm
  go_wp2_with fail
  refine (HCT.out w1 (he.2.below hb1)).mono ?_
  rintro e w2 ⟨rfl,hb2⟩
  have a2:=hb1.trans (hb2.mono hb1.size)
  go_wp2_with fail
  refine (HN.out w2).mono ?_;rintro e w' ⟨rfl,h⟩;obtain rfl:=h.symm
  go_wp2_with fail
  refine (trimp_any (numT l) w2).mono ?_;rintro e w' ⟨rfl,h⟩;obtain rfl:=h.symm
  go_wp2_with fail
  refine (HG.out w2 (he.1.below a2)).mono ?_
  rw [HGD.out.1,HGD.out.2]
  rintro e w3 ⟨rfl,hb3⟩
  have a3:=a2.trans (hb3.mono a2.size)
  go_wp2_with fail
  go_ret
  exact ⟨ret_bool HR.out.symm,a3⟩
 ·have hg':(dec (Nat.gcd (val (mag (numT l))) (val (denT l))) == [49])=false:=by
   have:dec (Nat.gcd (val (mag (numT l))) (val (denT l)))≠[49]:=fun e=>hg (dec_eq_one.1 e)
   simpa using this
  have HR2:=Lib.hid (show rightQ l=false by rw [HR.out];simpa using hg)
  clear HR hg
  have HR:=HR2
  go_enter Tryz.func149,Tryz.ntmps149
  simp only [B_mk]
  go_wp2_with fail
  refine HSP.out.mono ?_
  rintro e w1 ⟨rfl,hb1⟩
  go_wp2_with fail
  refine (HR1.out w1).mono ?_;rintro e w' ⟨rfl,h⟩;obtain rfl:=h.symm
  go_wp2_with fail
  refine (HD1.out w1).mono ?_;rintro e w' ⟨rfl,h⟩;obtain rfl:=h.symm
  go_wp2_with fail
  refine (HD2.out w1).mono ?_;rintro e w' ⟨rfl,h⟩;obtain rfl:=h.symm
  go_wp2_with fail
  refine (HCT.out w1 (he.2.below hb1)).mono ?_
  rintro e w2 ⟨rfl,hb2⟩
  have a2:=hb1.trans (hb2.mono hb1.size)
  go_wp2_with fail
  refine (HN.out w2).mono ?_;rintro e w' ⟨rfl,h⟩;obtain rfl:=h.symm
  go_wp2_with fail
  refine (trimp_any (numT l) w2).mono ?_;rintro e w' ⟨rfl,h⟩;obtain rfl:=h.symm
  go_wp2_with fail
  refine (HG.out w2 (he.1.below a2)).mono ?_
  rw [HGD.out.1,HGD.out.2]
  rintro e w3 ⟨rfl,hb3⟩
  have a3:=a2.trans (hb3.mono a2.size)
  go_wp2_with fail
  go_ret
  exact ⟨ret_bool HR.out.symm,a3⟩
theorem pdivq_any (x:Int) (g:Nat) (w:World) (hx:dl x≤4096) (hg:(dec g).length≤4096) (h0:0<g) (ht:Tab w) :
  Calls Tryz.prog 154 #[.string (B (decI x)),.string (B (dec g))] w fun e w'=>e=.returned (.tuple #[.string (B (decI (x / (g:Int)))),.string (B (decI (x % (g:Int)))),.int .i64 0])∧Below w.heap.size w w':=by
 have hl:=dl_len x
 rw [← decI_nat g]
 have he:=errI_dec (x:=x) (y:=(g:Int)) hx (by rw [dl_nat];exact hg)
 have h:=pdiv_any (decI x) (decI (g:Int)) w (by omega) (by rw [decI_nat];omega) ht
 have hv:=divI_ok he (by rw [valI_decI];omega)
 rw [valI_decI,valI_decI,(qI_pos (show (0:Int)<g by omega)).1,(qI_pos (show (0:Int)<g by omega)).2] at hv
 rw [hv.1,hv.2.1,hv.2.2] at h
 exact h
theorem ret_si' {a b:List UInt8} {c d:Int} (h:a=b) (h2:c=d):Ending.returned (.tuple #[.string (B a),.int .i64 c])=.returned (.tuple #[.string (B b),.int .i64 d]):=by rw [h,h2]
set_option maxHeartbeats 1000000 in
theorem qlowest_any (x:Int) (m:Nat) (w:World) (hx:dl x≤4096) (hm:(dec m).length≤4096) (h0:0<m) (ht:Tab w) :
  Calls Tryz.prog 107 #[.string (B (decI x)),.string (B (dec m))] w fun e w'=>e=.returned (.tuple #[.string (B (lowS x m)),.int .i64 0])∧Below w.heap.size w w':=by
 have hxa:(dec x.natAbs).length≤4096:=hx
 have hgp:0<Nat.gcd x.natAbs m:=Nat.gcd_pos_of_pos_right _ h0
 have HM:=Lib.hid (mag_decI x)
 have HG:=Lib.hid (fun w ht=>gcd_any (dec x.natAbs) (dec m) w (maxLen_le (by omega)) (maxLen_le (by omega)) ht)
 have HGD:=Lib.hid (gcd_dec (right_dec x.natAbs) (right_dec m) hxa hm (by rw [val_dec];exact h0))
 rw [val_dec,val_dec] at HGD
 have hgl:(dec (Nat.gcd x.natAbs m)).length≤4096:=Nat.le_trans (length_dec_mono (Nat.gcd_le_right _ h0)) hm
 have HL:=Lib.hid (show lowS x m=ratS (x / (Nat.gcd x.natAbs m:Nat)) (m / Nat.gcd x.natAbs m) from rfl)
 have hb:m / Nat.gcd x.natAbs m≤m:=Nat.div_le_self _ _
 have ha:(x / (Nat.gcd x.natAbs m:Nat)).natAbs≤x.natAbs:=Int.natAbs_ediv_le_natAbs _ _
 generalize Nat.gcd x.natAbs m=g at *
 have HD1:=Lib.hid (fun w ht=>pdivq_any x g w hx hgl hgp ht)
 have HD2:=Lib.hid (fun w ht=>pdivq_any (m:Int) g w (by rw [dl_nat];exact hm) hgl hgp ht)
 rw [show ((m:Int) / (g:Int))=((m / g:Nat):Int) from rfl,decI_nat,decI_nat] at HD2
 have hdb:(dec (m / g)).length≤4096:=Nat.le_trans (length_dec_mono hb) hm
 have hda:(decI (x / (g:Int))).length≤4097:=by
  have h1:=dl_len (x / (g:Int))
  have h2:=dl_mono ha
  omega
 have HDI:=Lib.hid (fun w (ht:Tab w)=>HD2.out w ht)
 by_cases h1:m / g=1
 ·have hq1:(dec (m / g) == [49])=true:=by rw [h1,dec_one];rfl
  have HR:=Lib.hid (show lowS x m=decI (x / (g:Int)) by rw [HL.out];exact if_pos h1)
  clear h1
  go_enter Tryz.func107,Tryz.ntmps107
  simp only [B_mk]
  go_wp2_with fail
  refine (trimp_any (decI x) w).mono ?_;rw [HM.out];rintro e w' ⟨rfl,h⟩;obtain rfl:=h.symm
  go_wp2_with fail
  refine (HG.out w ht).mono ?_
  rw [HGD.out.1,HGD.out.2]
  rintro e w1 ⟨rfl,hb1⟩
  go_wp2_with fail
  refine (HD1.out w1 (ht.below hb1)).mono ?_
  rintro e w2 ⟨rfl,hb2⟩
  have a2:=hb1.trans (hb2.mono hb1.size)
  go_wp2_with fail
  refine (HDI.out w2 (ht.below a2)).mono ?_
  rintro e w3 ⟨rfl,hb3⟩
  have a3:=a2.trans (hb3.mono a2.size)
  go_wp2_with fail
  go_ret2
  exact ⟨ret_si' HR.out.symm rfl,a3⟩
 ·have hq1:(dec (m / g) == [49])=false:=by
   have:dec (m / g)≠[49]:=fun e=>h1 (dec_eq_one.1 e)
   simpa using this
  have HR:=Lib.hid (show lowS x m=decI (x / (g:Int)) ++ 47 :: dec (m / g) by rw [HL.out];exact if_neg h1)
  clear h1
  go_enter Tryz.func107,Tryz.ntmps107
  simp only [B_mk]
  go_wp2_with fail
  refine (trimp_any (decI x) w).mono ?_;rw [HM.out];rintro e w' ⟨rfl,h⟩;obtain rfl:=h.symm
  go_wp2_with fail
  refine (HG.out w ht).mono ?_
  rw [HGD.out.1,HGD.out.2]
  rintro e w1 ⟨rfl,hb1⟩
  go_wp2_with fail
  refine (HD1.out w1 (ht.below hb1)).mono ?_
  rintro e w2 ⟨rfl,hb2⟩
  have a2:=hb1.trans (hb2.mono hb1.size)
  go_wp2_with fail
  refine (HDI.out w2 (ht.below a2)).mono ?_
  rintro e w3 ⟨rfl,hb3⟩
  have a3:=a2.trans (hb3.mono a2.size)
  go_wp2_with fail
  go_ret2
  exact ⟨ret_si' (by rw [HR.out]) rfl,a3⟩
theorem rq_parts {l:Str} (h:rightQ l=true):numT l=decI (qn l)∧denT l=dec (qd l)∧0<qd l∧dl (qn l)≤4096∧(dec (qd l)).length≤4096∧Nat.gcd (qn l).natAbs (qd l)=1∧l=ratS (qn l) (qd l):=by
 obtain ⟨n,d,h1,h2,h3,h4,rfl⟩:=rightQ_out h
 rw [qn_ratS,qd_ratS]
 exact ⟨(parts_ratS n d).1,(parts_ratS n d).2.1,h1,h3,h4,h2,rfl⟩
def prtN (l:Str):Str:=if rightQ l=true then numT l else []
def prtD (l:Str):Str:=if rightQ l=true then denT l else []
theorem ret_ssssi {a b c d a' b' c' d':List UInt8} {k k':Int} (h:a=a') (h1:b=b') (h2:c=c') (h3:d=d') (h4:k=k'):Ending.returned (.tuple #[.string (B a),.string (B b),.string (B c),.string (B d),.int .i64 k])=.returned (.tuple #[.string (B a'),.string (B b'),.string (B c'),.string (B d'),.int .i64 k']):=by rw [h,h1,h2,h3,h4]
def twoS (a b s:Str):Str:=if errQ a b=0 then s else []
theorem qtwo_any (a b:List UInt8) (w:World) (ha:a.length≤1000000) (hb:b.length≤1000000) (he:Env w) :
  Calls Tryz.prog 105 #[.string (B a),.string (B b)] w fun e w'=>e=.returned (.tuple #[.string (B (twoS a b (numT a))),.string (B (twoS a b (denT a))),.string (B (twoS a b (numT b))),.string (B (twoS a b (denT b))),.int .i64 (errQ a b)])∧Below w.heap.size w w':=by
 have HSA:=Lib.hid (fun w hm=>qsplit_any a w ha hm)
 have HSB:=Lib.hid (fun w hm=>qsplit_any b w hb hm)
 have HA:=Lib.hid (rq_any a w ha he)
 have HB:=Lib.hid (fun w he=>rq_any b w hb he)
 cases h1:rightQ a
 ·have HE:=Lib.hid (show errQ a b=3 by unfold errQ;rw [h1];simp)
  have HT:=Lib.hid (show ∀ s,twoS a b s=[] by intro s;unfold twoS;rw [HE.out];rfl)
  rw [h1] at HA
  go_enter Tryz.func105,Tryz.ntmps105
  simp only [B_mk]
  go_wp2_with fail
  refine HA.out.mono ?_
  rintro e w1 ⟨rfl,hb1⟩
  go_wp2_with fail
  go_returns
  exact ⟨ret_ssssi (HT.out _).symm (HT.out _).symm (HT.out _).symm (HT.out _).symm HE.out.symm,hb1⟩
 cases h2:rightQ b
 ·have HE:=Lib.hid (show errQ a b=3 by unfold errQ;rw [h2];simp)
  have HT:=Lib.hid (show ∀ s,twoS a b s=[] by intro s;unfold twoS;rw [HE.out];rfl)
  rw [h1] at HA
  rw [h2] at HB
  go_enter Tryz.func105,Tryz.ntmps105
  simp only [B_mk]
  go_wp2_with fail
  refine HA.out.mono ?_
  rintro e w1 ⟨rfl,hb1⟩
  go_wp2_with fail
  refine (HB.out w1 (he.below hb1)).mono ?_
  rintro e w2 ⟨rfl,hb2⟩
  go_wp2_with fail
  go_returns
  exact ⟨ret_ssssi (HT.out _).symm (HT.out _).symm (HT.out _).symm (HT.out _).symm HE.out.symm,hb1.trans (hb2.mono hb1.size)⟩
 have HE:=Lib.hid (show errQ a b=0 by unfold errQ;rw [h1,h2];simp)
 have HT:=Lib.hid (show ∀ s,twoS a b s=s by intro s;unfold twoS;rw [HE.out];rfl)
 rw [h1] at HA
 rw [h2] at HB
 go_enter Tryz.func105,Tryz.ntmps105
 simp only [B_mk]
 go_wp2_with fail
 refine HA.out.mono ?_
 rintro e w1 ⟨rfl,hb1⟩
 go_wp2_with fail
 refine (HB.out w1 (he.below hb1)).mono ?_
 rintro e w2 ⟨rfl,hb2⟩
 have a2:=hb1.trans (hb2.mono hb1.size)
 go_wp2_with fail
 refine (HSA.out w2 (he.2.below a2)).mono ?_
 rintro e w3 ⟨rfl,hb3⟩
 have a3:=a2.trans (hb3.mono a2.size)
 go_wp2_with fail
 refine (HSB.out w3 (he.2.below a3)).mono ?_
 rintro e w4 ⟨rfl,hb4⟩
 go_wp2_with fail
 go_returns
 exact ⟨ret_ssssi (HT.out _).symm (HT.out _).symm (HT.out _).symm (HT.out _).symm HE.out.symm,a3.trans (hb4.mono a3.size)⟩
end Go.Proofs.YtjcekdiocliddaaGreatDoor

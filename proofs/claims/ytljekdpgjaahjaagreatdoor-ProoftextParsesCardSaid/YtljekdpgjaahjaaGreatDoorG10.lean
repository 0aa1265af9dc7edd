/- Numbers as texts: what is read, plain. -/
import Derived.Test.YtljekdpgjaahjaaGreatDoorG1
import Derived.Test.YtljekdpgjaahjaaGreatDoorG8
import Derived.Shelf.Strings.Prefix
import Derived.Lib.AtoiAll
import Derived.Lib.AtoiErrMem
import Derived.Test.YtljekdpgjaahjaaGreatDoorG7
import Derived.Lib.ParseIntBTie
namespace Go.Proofs.YtljekdpgjaahjaaGreatDoor
open Num
namespace Num
theorem trim_mag (l:Str):Lib.trimPrefix l [45]=mag l:=by
 unfold mag neg? Lib.trimPrefix Lib.hasPrefix
 cases l with
 |nil=>rfl
 |cons c t =>
  by_cases h:c=45
  ·subst h;simp
  ·have:¬ (45:UInt8)=c:=fun e=>h e.symm
   simp [h,this]
theorem parseUint10_eq:∀ (l:Str) (acc:Nat),l.all isDig=true→acc<18446744073709551616 →
  Lib.parseUint10 acc l=if acc*10 ^ l.length+val l<18446744073709551616 then .ok (acc*10 ^ l.length+val l) else .range:=by
 intro l
 induction l with
 |nil=>intro acc _ h;simp [Lib.parseUint10,val,h]
 |cons c t ih =>
  intro acc hd ha
  simp only [List.all_cons,Bool.and_eq_true] at hd
  have hc:=hd.1
  unfold isDig at hc
  simp at hc
  have hv:val (c :: t)=dv c*10 ^ t.length+val t:=val_cons c t
  have hp:0<10 ^ t.length:=Nat.pow_pos (by omega)
  have key:acc*10 ^ (c :: t).length+val (c :: t)=(acc*10+dv c)*10 ^ t.length+val t:=by
   rw [hv,List.length_cons,Nat.pow_succ,Nat.add_mul,Nat.mul_comm (10 ^ t.length) 10,Nat.mul_assoc];omega
  have hge:(acc*10+dv c)≤(acc*10+dv c)*10 ^ t.length:=Nat.le_mul_of_pos_right _ hp
  rw [key]
  unfold Lib.parseUint10
  rw [if_pos hc]
  have hdv:dv c=c.toNat - 48:=rfl
  by_cases h1:1844674407370955162≤acc
  ·rw [if_pos h1,if_neg (by omega)]
  ·rw [if_neg h1]
   by_cases h2:18446744073709551616≤acc*10+(c.toNat - 48)
   ·rw [if_pos h2,if_neg (by omega)]
   ·rw [if_neg h2,ih _ hd.2 (by omega),← hdv]
theorem parseMag_eq {l:Str} (h:l.all isDig=true) (h0:l≠[]):Lib.parseMag l=if val l<18446744073709551616 then .ok (val l) else .range:=by
 unfold Lib.parseMag
 rw [if_neg h0,parseUint10_eq l 0 h (by omega)]
 simp
theorem atoiAll_eq {s:Str} (h:rightI s=true):Lib.atoiAll s=if fits (valI s) then .ok (valI s) else .range:=by
 obtain ⟨hd,hne⟩:=right_parts (rightI_mag h)
 have hp:=parseMag_eq hd hne
 cases s with
 |nil=>exact absurd rfl hne
 |cons c t =>
  unfold Lib.atoiAll
  by_cases hc:c=45
  ·subst hc
   have hm:mag (45 :: t)=t:=rfl
   have hv:valI (45 :: t) = -(val t:Int):=rfl
   rw [hm] at hp
   simp only [show (45:UInt8).toNat=45 from rfl,or_true,if_true,hp,hv,fits]
   by_cases h1:val t<18446744073709551616
   ·rw [if_pos h1]
    simp only [not_true,false_and,if_false,true_and]
    by_cases h2:9223372036854775808<val t
    ·rw [if_pos h2,if_neg (by omega)]
    ·rw [if_neg h2,if_pos (by omega)]
   ·rw [if_neg h1]
    simp only
    rw [if_neg (by omega)]
  ·have hn:neg? (c :: t)=false:=by simp [neg?,hc]
   have hm:mag (c :: t)=c :: t:=by unfold mag;rw [hn];rfl
   have hv:valI (c :: t)=(val (c :: t):Int):=by unfold valI;rw [hn,hm];rfl
   rw [hm] at hp hd
   have hcd:isDig c=true:=by simp at hd;exact hd.1
   unfold isDig at hcd
   simp at hcd
   have h43:¬ (c.toNat=43∨c.toNat=45):=by omega
   have h45:¬ c.toNat=45:=by omega
   simp only [if_neg h43,hp,hv,fits]
   generalize val (c :: t)=x at *
   by_cases h1:x<18446744073709551616
   ·rw [if_pos h1]
    simp only [h45,not_false_iff,true_and,false_and,if_false]
    by_cases h2:9223372036854775808≤x
    ·rw [if_pos h2,if_neg (by omega)]
    ·rw [if_neg h2,if_pos (by omega)]
   ·rw [if_neg h1]
    simp only
    rw [if_neg (by omega)]
end Num
end Go.Proofs.YtljekdpgjaahjaaGreatDoor
namespace Go.Proofs.YtljekdpgjaahjaaGreatDoor
open Go.RowKit Num
set_option linter.unusedVariables false
attribute [local go_sem] B_size B_get B_toList B_mk B_extract B_append
def ErrV (w:World):Prop:=∃ tp p,w.var? Tryz.prog "strconv.ErrRange"=some #[.iface tp p]
theorem ErrV.below {w w':World} (h:ErrV w) (hb:Below w.heap.size w w'):ErrV w':=by
 obtain ⟨tp,p,h⟩:=h
 refine ⟨tp,p,?_⟩
 rw [← h]
 unfold World.var? at h ⊢
 cases hg:Tryz.prog.globalNamed "strconv.ErrRange" with
 |none=>rw [hg] at h;cases h
 |some g =>
  rw [hg] at h
  simp only [Option.bind_some] at h ⊢
  rw [hb.block g]
  rcases Nat.lt_or_ge g w.heap.size with h' | h'
  ·exact h'
  ·rw [Array.getElem?_eq_none h'] at h;simp at h
theorem itoaI_any (z:Int) (w:World) (hz:fits z) (ht:Tab w) :
  Calls Tryz.prog 94 #[.int .i64 z] w fun e w'=>e=.returned (.string (B (decI z)))∧Below w.heap.size w w':=by
 refine (Tryz.strconv_Itoa z hz.1 hz.2 w ht).mono ?_
 rintro e w' ⟨rfl,k,os,rfl⟩
 refine ⟨?_,Lib.below_grow _ w (Nat.le_refl _) k os⟩
 have:Lib.itoa z=decI z:=by
  unfold Lib.itoa decI
  by_cases h:z<0
  ·rw [if_pos h,if_pos h,decDigits_eq]
  ·rw [if_neg h,if_neg h,decDigits_eq]
   congr 1;omega
 rw [this];rfl
attribute [local go_sem high] run_max2
theorem has_neg (l:Str):Lib.hasPrefix l [45]=neg? l:=by
 unfold neg? Lib.hasPrefix
 cases l with
 |nil=>rfl
 |cons c t =>
  by_cases h:c=45
  ·subst h;rfl
  ·have h1:((45:UInt8) == c)=false:=by simpa using fun e:(45:UInt8)=c=>h e.symm
   have h2:(c == (45:UInt8))=false:=by simpa using h
   show ((45:UInt8) == c && _)=(some c == some 45)
   rw [h1,Bool.false_and]
   simpa using h
theorem cut_prefix_any (l:List UInt8) (w:World):Calls Tryz.prog 114 #[.string (B l),.string (B [45])] w fun e w'=>e=.returned (.tuple #[.string (B (mag l)),.bool (neg? l)])∧w'=w:=by
 refine (Tryz.strings_CutPrefix (B l) (B [45]) w).mono ?_
 rintro e w' ⟨rfl,rfl⟩
 refine ⟨?_,rfl⟩
 rw [show (B l).data.toList=l from by simp [B],show (B [45]).data.toList=[45] from rfl,trim_mag,has_neg];rfl
theorem ret_bsb {a c a' c':Bool} {b b':List UInt8} (h:a=a') (h1:b=b') (h2:c=c'):Ending.returned (.tuple #[.bool a,.string (B b),.bool c])=.returned (.tuple #[.bool a',.string (B b'),.bool c']):=by rw [h,h1,h2]
theorem pparts_any (l:List UInt8) (w:World) (hs:l.length≤maxLen) :
  Calls Tryz.prog 88 #[.string (B l)] w fun e w'=>e=.returned (.tuple #[.bool (neg? l),.string (B (mag l)),.bool (rightI l)])∧w'=w:=by
 have hml:=mag_length l
 have hm:(mag l).length≤maxLen:=Nat.le_trans hml hs
 cases hr:right (mag l)
 ·have HR:=Lib.hid (show rightI l=false by unfold rightI;rw [hr];rfl)
  go_enter Tryz.func88,Tryz.ntmps88
  simp only [B_mk]
  go_wp2_with fail
  refine (cut_prefix_any l w).mono ?_;rintro e w' ⟨rfl,h⟩;obtain rfl:=h.symm
  go_wp2_with fail
  refine (right_any _ w hm).mono ?_;rintro e w' ⟨rfl,h⟩;obtain rfl:=h.symm
  go_wp2_with fail
  go_ret3
  exact ⟨ret_bsb rfl rfl HR.out.symm,rfl⟩
 ·by_cases h0:mag l=[48]
  ·have h0':(mag l == [48])=true:=by simpa using h0
   have HR:=Lib.hid (show rightI l=!neg? l by unfold rightI;rw [hr,h0];simp)
   clear h0
   cases hn:neg? l
   all_goals
    rw [hn] at HR
    go_enter Tryz.func88,Tryz.ntmps88
    simp only [B_mk]
    go_wp2_with fail
    refine (cut_prefix_any l w).mono ?_;rintro e w' ⟨rfl,h⟩;obtain rfl:=h.symm
    go_wp2_with fail
    refine (right_any _ w hm).mono ?_;rintro e w' ⟨rfl,h⟩;obtain rfl:=h.symm
    go_wp2_with fail
    go_ret3
    exact ⟨ret_bsb rfl rfl HR.out.symm,rfl⟩
  ·have h0':(mag l == [48])=false:=by simpa using h0
   have HR:=Lib.hid (show rightI l=true by unfold rightI;rw [hr,h0'];simp)
   clear h0
   cases hn:neg? l
   all_goals
    go_enter Tryz.func88,Tryz.ntmps88
    simp only [B_mk]
    go_wp2_with fail
    refine (cut_prefix_any l w).mono ?_;rintro e w' ⟨rfl,h⟩;obtain rfl:=h.symm
    go_wp2_with fail
    refine (right_any _ w hm).mono ?_;rintro e w' ⟨rfl,h⟩;obtain rfl:=h.symm
    go_wp2_with fail
    go_ret3
    exact ⟨ret_bsb rfl rfl HR.out.symm,rfl⟩
theorem wright_any (l:List UInt8) (w:World) (hs:l.length≤maxLen) :
  Calls Tryz.prog 56 #[.string (B l)] w fun e w'=>e=.returned (.bool (rightI l))∧w'=w:=by
 go_enter Tryz.func56,Tryz.ntmps56
 go_wp2_with fail
 refine (pparts_any l w hs).mono ?_;rintro e w' ⟨rfl,h⟩;obtain rfl:=h.symm
 go_wp2_with fail
 go_ret
 exact ⟨rfl,rfl⟩
theorem ret_iip {a b c d:Int} (h:a=b) (h2:c=d):Ending.returned (.tuple #[.int .i64 a,.int .i64 c])=.returned (.tuple #[.int .i64 b,.int .i64 d]):=by rw [h,h2]
end Go.Proofs.YtljekdpgjaahjaaGreatDoor

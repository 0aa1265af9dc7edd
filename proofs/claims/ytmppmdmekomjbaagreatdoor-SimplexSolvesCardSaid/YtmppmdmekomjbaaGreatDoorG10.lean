/- Numbers as texts: what is read, plain. -/
import Derived.Test.YtmppmdmekomjbaaGreatDoorG1
import Derived.Test.YtmppmdmekomjbaaGreatDoorG8
import Derived.Shelf.Strings.Prefix
import Derived.Lib.AtoiAll
import Derived.Lib.AtoiErrMem
import Derived.Test.YtmppmdmekomjbaaGreatDoorG7
import Derived.Lib.ParseIntBTie
namespace Go.Proofs.YtmppmdmekomjbaaGreatDoor
open Num
namespace Num
theorem trim_mag (l:Str):Lib.trimPrefix l [45]=mag l:=by
 unfold mag neg? Lib.trimPrefix Lib.hasPrefix
 cases l with
 | nil=>rfl
 | cons c t =>
  by_cases h:c=45
  ·subst h;simp
  ·have:¬ (45:UInt8)=c:=fun e=>h e.symm
   simp [h,this]
end Num
end Go.Proofs.YtmppmdmekomjbaaGreatDoor
namespace Go.Proofs.YtmppmdmekomjbaaGreatDoor
open Go.RowKit Num
set_option linter.unusedVariables false
attribute [local go_sem] B_size B_get B_toList B_mk B_extract B_append
def ErrV (w:World):Prop:=∃ tp p,w.var? Tryz.prog "strconv.ErrRange"=some #[.iface tp p]
theorem ErrV.below {w w':World} (h:ErrV w) (hb:Below w.heap.size w w'):ErrV w':=by
 obtain ⟨tp,p,h⟩:=h
 refine ⟨tp,p,?_⟩
 rw [← h]
 unfold World.var? at h ⊢
 cases hg:Tryz.prog.globalNamed "strconv.ErrRange" with
 | none=>rw [hg] at h;cases h
 | some g =>
  rw [hg] at h
  simp only [Option.bind_some] at h ⊢
  rw [hb.block g]
  rcases Nat.lt_or_ge g w.heap.size with h' | h'
  ·exact h'
  ·rw [Array.getElem?_eq_none h'] at h;simp at h
theorem itoaI_any (z:Int) (w:World) (hz:fits z) (ht:Tab w) :
  Calls Tryz.prog 103 #[.int .i64 z] w fun e w'=>e=.returned (.string (B (decI z)))∧Below w.heap.size w w':=by
 refine (Tryz.strconv_Itoa z hz.1 hz.2 w ht).mono ?_
 rintro e w' ⟨rfl,k,os,rfl⟩
 refine ⟨?_,Lib.below_grow _ w (Nat.le_refl _) k os⟩
 have:Lib.itoa z=decI z:=by
  unfold Lib.itoa decI
  by_cases h:z<0
  ·rw [if_pos h,if_pos h,decDigits_eq]
  ·rw [if_neg h,if_neg h,decDigits_eq]
   congr 1;omega
 rw [this];rfl
attribute [local go_sem high] run_max2
theorem has_neg (l:Str):Lib.hasPrefix l [45]=neg? l:=by
 unfold neg? Lib.hasPrefix
 cases l with
 | nil=>rfl
 | cons c t =>
  by_cases h:c=45
  ·subst h;rfl
  ·have h1:((45:UInt8) == c)=false:=by simpa using fun e:(45:UInt8)=c=>h e.symm
   have h2:(c == (45:UInt8))=false:=by simpa using h
   show ((45:UInt8) == c && _)=(some c == some 45)
   rw [h1,Bool.false_and]
   simpa using h
theorem cut_prefix_any (l:List UInt8) (w:World):Calls Tryz.prog 154 #[.string (B l),.string (B [45])] w fun e w'=>e=.returned (.tuple #[.string (B (mag l)),.bool (neg? l)])∧w'=w:=by
 refine (Tryz.strings_CutPrefix (B l) (B [45]) w).mono ?_
 rintro e w' ⟨rfl,rfl⟩
 refine ⟨?_,rfl⟩
 rw [show (B l).data.toList=l from by simp [B],show (B [45]).data.toList=[45] from rfl,trim_mag,has_neg];rfl
theorem ret_bsb {a c a' c':Bool} {b b':List UInt8} (h:a=a') (h1:b=b') (h2:c=c'):Ending.returned (.tuple #[.bool a,.string (B b),.bool c])=.returned (.tuple #[.bool a',.string (B b'),.bool c']):=by rw [h,h1,h2]
theorem pparts_any (l:List UInt8) (w:World) (hs:l.length≤maxLen) :
  Calls Tryz.prog 120 #[.string (B l)] w fun e w'=>e=.returned (.tuple #[.bool (neg? l),.string (B (mag l)),.bool (rightI l)])∧w'=w:=by
 have hml:=mag_length l
 have hm:(mag l).length≤maxLen:=Nat.le_trans hml hs
 cases hr:right (mag l)
 ·have HR:=Lib.hid (show rightI l=false by unfold rightI;rw [hr];rfl)
  go_enter Tryz.func120,Tryz.ntmps120
  simp only [B_mk]
  go_wp2_with fail
  refine (cut_prefix_any l w).mono ?_;rintro e w' ⟨rfl,h⟩;obtain rfl:=h.symm
  go_wp2_with fail
  refine (right_any _ w hm).mono ?_;rintro e w' ⟨rfl,h⟩;obtain rfl:=h.symm
  go_wp2_with fail
  go_ret3
  exact ⟨ret_bsb rfl rfl HR.out.symm,rfl⟩
 ·by_cases h0:mag l=[48]
  ·have h0':(mag l == [48])=true:=by simpa using h0
   have HR:=Lib.hid (show rightI l=!neg? l by unfold rightI;rw [hr,h0];simp)
   clear h0
   cases hn:neg? l
   all_goals
    rw [hn] at HR
    go_enter Tryz.func120,Tryz.ntmps120
    simp only [B_mk]
    go_wp2_with fail
    refine (cut_prefix_any l w).mono ?_;rintro e w' ⟨rfl,h⟩;obtain rfl:=h.symm
    go_wp2_with fail
    refine (right_any _ w hm).mono ?_;rintro e w' ⟨rfl,h⟩;obtain rfl:=h.symm
    go_wp2_with fail
    go_ret3
    exact ⟨ret_bsb rfl rfl HR.out.symm,rfl⟩
  ·have h0':(mag l == [48])=false:=by simpa using h0
   have HR:=Lib.hid (show rightI l=true by unfold rightI;rw [hr,h0'];simp)
   clear h0
   cases hn:neg? l
   all_goals
    go_enter Tryz.func120,Tryz.ntmps120
    simp only [B_mk]
    go_wp2_with fail
    refine (cut_prefix_any l w).mono ?_;rintro e w' ⟨rfl,h⟩;obtain rfl:=h.symm
    go_wp2_with fail
    refine (right_any _ w hm).mono ?_;rintro e w' ⟨rfl,h⟩;obtain rfl:=h.symm
    go_wp2_with fail
    go_ret3
    exact ⟨ret_bsb rfl rfl HR.out.symm,rfl⟩
theorem wright_any (l:List UInt8) (w:World) (hs:l.length≤maxLen) :
  Calls Tryz.prog 83 #[.string (B l)] w fun e w'=>e=.returned (.bool (rightI l))∧w'=w:=by
 go_enter Tryz.func83,Tryz.ntmps83
 go_wp2_with fail
 refine (pparts_any l w hs).mono ?_;rintro e w' ⟨rfl,h⟩;obtain rfl:=h.symm
 go_wp2_with fail
 go_ret
 exact ⟨rfl,rfl⟩
theorem wof_any (z:Int) (w:World) (hz:fits z) (ht:Tab w) :
  Calls Tryz.prog 104 #[.int .i64 z] w fun e w'=>e=.returned (.string (B (decI z)))∧Below w.heap.size w w':=by
 go_enter Tryz.func104,Tryz.ntmps104
 simp only [B_mk]
 go_wp2_with fail
 refine (itoaI_any z w hz ht).mono ?_
 rintro e w1 ⟨rfl,hb1⟩
 go_wp2_with fail
 go_ret
 exact ⟨rfl,hb1⟩
end Go.Proofs.YtmppmdmekomjbaaGreatDoor

/- text.digit, letter, Name and the reference's. -/
import Derived.Test.YtljekdpgjaahjaaGreatDoorG2
import Derived.Test.YtljekdpgjaahjaaGreatDoorG54
import Derived.Test.YtljekdpgjaahjaaGreatDoorG10
import Derived.Test.YtljekdpgjaahjaaGreatDoorG3
import Derived.Lib.AtoiErrMem
namespace Go.Proofs.YtljekdpgjaahjaaGreatDoor
open Go.RowKit Num Txt
set_option linter.unusedVariables false
attribute [local go_sem] B_size B_get B_toList B_mk B_extract B_append
theorem digit_any (c:UInt8) (w:World):Calls Tryz.prog 136 #[.int .u8 c.toNat] w fun e w'=>e=.returned (.bool (isDig c))∧w'=w:=by
 have HR:=Lib.hid (show isDig c=(decide (48≤c.toNat) && decide (c.toNat≤57)) from rfl)
 have hc:=c.toNat_lt
 generalize c.toNat=x at *
 by_cases h1:(48:Int)≤(x:Int)
 ·by_cases h2:(x:Int)≤57
  ·go_enter Tryz.func136,Tryz.ntmps136
   go_wp2_with fail
   go_ret
   exact ⟨ret_bool (by rw [HR.out,decide_eq_true (by omega:48≤x),decide_eq_true (by omega:x≤57)];rfl),rfl⟩
  ·have h2':(57:Int)<(x:Int):=by omega
   go_enter Tryz.func136,Tryz.ntmps136
   go_wp2_with fail
   go_ret
   exact ⟨ret_bool (by rw [HR.out,decide_eq_true (by omega:48≤x),decide_eq_false (by omega:¬ x≤57)];rfl),rfl⟩
 ·have h1':(x:Int)<48:=by omega
  go_enter Tryz.func136,Tryz.ntmps136
  go_wp2_with fail
  go_ret
  exact ⟨ret_bool (by rw [HR.out,decide_eq_false (by omega:¬ 48≤x)];rfl),rfl⟩
theorem rdigit_any (c:UInt8) (w:World):Calls Tryz.prog 112 #[.int .u8 c.toNat] w fun e w'=>e=.returned (.bool (isDig c))∧w'=w:=by
 have HR:=Lib.hid (show isDig c=(decide (48≤c.toNat) && decide (c.toNat≤57)) from rfl)
 have hc:=c.toNat_lt
 generalize c.toNat=x at *
 by_cases h1:(48:Int)≤(x:Int)
 ·by_cases h2:(x:Int)≤57
  ·go_enter Tryz.func112,Tryz.ntmps112
   go_wp2_with fail
   go_ret
   exact ⟨ret_bool (by rw [HR.out,decide_eq_true (by omega:48≤x),decide_eq_true (by omega:x≤57)];rfl),rfl⟩
  ·have h2':(57:Int)<(x:Int):=by omega
   go_enter Tryz.func112,Tryz.ntmps112
   go_wp2_with fail
   go_ret
   exact ⟨ret_bool (by rw [HR.out,decide_eq_true (by omega:48≤x),decide_eq_false (by omega:¬ x≤57)];rfl),rfl⟩
 ·have h1':(x:Int)<48:=by omega
  go_enter Tryz.func112,Tryz.ntmps112
  go_wp2_with fail
  go_ret
  exact ⟨ret_bool (by rw [HR.out,decide_eq_false (by omega:¬ 48≤x)];rfl),rfl⟩
def letN (x:Nat):Bool:=(decide (97≤x) && decide (x≤122)) || (decide (65≤x) && decide (x≤90)) || decide (x=95)
theorem letN_t {x:Nat} (h:97≤x∧x≤122∨65≤x∧x≤90∨x=95):letN x=true:=by unfold letN;simp;omega
theorem letN_f {x:Nat} (h:¬ (97≤x∧x≤122∨65≤x∧x≤90∨x=95)):letN x=false:=by
 have:¬ letN x=true:=by unfold letN;simp;omega
 simpa using this
theorem nameOK_parts (s:Str):nameOK s=true↔(1≤s.length∧s.length≤16∧isDig (at8 s 0)=false∧s.all (fun c=>isLet c || isDig c)=true):=by
 unfold nameOK at8;simp [and_assoc]
def nch (c:UInt8):Bool:=isLet c || isDig c
theorem nameOK_no {s:Str} (h:¬ (1≤s.length∧s.length≤16∧isDig (at8 s 0)=false∧s.all nch=true)):nameOK s=false:=by
 have:=mt (nameOK_parts s).1 h
 simpa using this
theorem nameOK_yes {s:Str} (h:1≤s.length∧s.length≤16∧isDig (at8 s 0)=false∧s.all nch=true):nameOK s=true:=(nameOK_parts s).2 h
theorem names_same (l:List UInt8):(nameOK l == nameOK l)=true:=by simp
theorem trim_prefix_any (l:List UInt8) (w:World):Calls Tryz.prog 61 #[.string (B l),.string (B [45])] w fun e w'=>e=.returned (.string (B (mag l)))∧w'=w:=by
 refine (Tryz.strings_TrimPrefix (B l) (B [45]) w).mono ?_
 rintro e w' ⟨rfl,rfl⟩
 refine ⟨?_,rfl⟩
 rw [show (B l).data.toList=l from by simp [B],show (B [45]).data.toList=[45] from rfl,trim_mag];rfl
theorem atoi_any (l:List UInt8) (w:World) (hs:l.length≤1000000000) (hr:rightI l=true) (he:ErrV w) :
  Calls Tryz.prog 137 #[.string (B l)] w fun e w'=>Below w.heap.size w w' ∧
   ((fits (valI l)∧e=.returned (.tuple #[.int .i64 (valI l),.nilIface]))∨(¬ fits (valI l)∧∃ v N,e=.returned (.tuple #[.int .i64 v,.iface 200 (.pointer (some ⟨N,0,none⟩))]))):=by
 have hd:(B l).data.toList=l:=by simp [B]
 by_cases h:fits (valI l)
 ·have ha:Lib.atoiAll (B l).data.toList=.ok (valI l):=by rw [hd,atoiAll_eq hr,if_pos h]
  refine (Tryz.strconv_Atoi_ok (B l) (by rw [B_size];omega) _ ha w).mono ?_
  rintro e w' ⟨rfl,h1⟩
  refine ⟨?_,.inl ⟨h,rfl⟩⟩
  rcases h1 with rfl | ⟨t,rfl⟩
  ·exact Below.refl _ _
  ·exact Lib.bytesWorld_below _ _ _
 ·have ha:Lib.atoiAll (B l).data.toList=.range:=by rw [hd,atoiAll_eq hr,if_neg h]
  obtain ⟨tp,p,hv⟩:=he
  refine (Tryz.strconv_Atoi_range_var (B l) (by rw [B_size];omega) ha tp p w hv).mono ?_
  rintro e w' ⟨N,rfl,_,_,hb⟩
  exact ⟨hb,.inr ⟨h,_,N,rfl⟩⟩
theorem decimal_any (z:Int) (w:World) (hz:fits z) (ht:Tab w) :
  Calls Tryz.prog 62 #[.int .i64 z] w fun e w'=>e=.returned (.string (B (decI z)))∧Below w.heap.size w w':=by
 go_enter Tryz.func62,Tryz.ntmps62
 simp only [B_mk]
 go_wp2_with fail
 refine (itoaI_any z w hz ht).mono ?_
 rintro e w1 ⟨rfl,hb1⟩
 go_wp2_with fail
 go_ret
 exact ⟨rfl,hb1⟩
theorem ret_ii {a b c d:Int} (h:a=b) (h2:c=d):Ending.returned (.tuple #[.int .i64 a,.int .i64 c])=.returned (.tuple #[.int .i64 b,.int .i64 d]):=by rw [h,h2]
theorem number_any (l:List UInt8) (w:World) (hs:l.length≤1000000) (he:ErrV w) :
  Calls Tryz.prog 107 #[.string (B l)] w fun e w'=>e=.returned (.tuple #[.int .i64 (numV l),.int .i64 (numE l)])∧Below w.heap.size w w':=by
 have BAD:=Lib.hid (fun h=>num_bad (s:=l) h)
 have hml:=mag_length l
 go_enter Tryz.func107,Tryz.ntmps107
 simp only [B_mk]
 go_wp2_with fail
 refine (trim_prefix_any l w).mono ?_
 rintro e w' ⟨rfl,rfl⟩
 have N1:=Lib.hid (@rightI_no_empty l)
 have N2:=Lib.hid (@rightI_no_zero l)
 have N3:=Lib.hid (@rightI_no_digit l)
 have Y:=Lib.hid (@rightI_yes l)
 generalize mag l=m at *
 by_cases h0:m=[]
 ·subst h0
  have HB:=Lib.hid (BAD.out (N1.out rfl))
  go_wp2_with fail
  go_ret2
  exact ⟨ret_ii HB.out.2.symm HB.out.1.symm,Below.refl _ _⟩
 have hm0:0<m.length:=List.length_pos_iff.2 h0
 have hme:(m == [])=false:=by simpa using h0
 have hh:=Lib.hid (at8_zero_head m h0)
 have H0:=Lib.hid h0
 clear h0
 have loop:m.head? ≠ some 48∨l=[48]→((((at8 m 0).toNat:Int) == 48)=false∨((((at8 m 0).toNat:Int) == 48)=true∧(!(l == [48]))=false)):=by
  rintro (h | h)
  ·left
   rw [hh.out] at h
   simp at h
   rw [beq_eq_false_iff_ne]
   intro e
   exact h (UInt8.toNat_inj.1 (by simp;omega))
  ·by_cases e:(((at8 m 0).toNat:Int) == 48)=true
   ·exact .inr ⟨e,by simp [h]⟩
   ·exact .inl (by simpa using e)
 have LOOP:=Lib.hid loop
 clear loop
 by_cases hz:m.head? ≠ some 48∨l=[48]
 ·have HZ:=Lib.hid hz
  have L:=LOOP.out hz
  clear hz
  rcases L with h1 | ⟨h1,h2⟩
  all_goals
   go_wp2_with fail
   go_loopw [5,23] (fun _ i wr=>∃ k:Nat,k≤m.length∧i=.int .i64 k∧(m.take k).all isDig=true∧wr=w') (fun _ i _=>m.length - (intOf i).toNat)
   case atStart=>exact ⟨0,Nat.zero_le _,rfl,by simp,by trivial⟩
   case round =>
    obtain ⟨k,hk,rfl,hall,rfl⟩:=hrel
    have HA:=Lib.hid hall
    clear hall
    by_cases hlt:k<m.length
    ·have HT:=Lib.hid (fun h=>all_take_succ (p:=isDig) hlt HA.out h)
     have HF:=Lib.hid (fun h=>not_all_of (p:=isDig) hlt h)
     go_wp2_with fail
     refine (digit_any (at8 m k) _).mono ?_
     rintro e w2 ⟨rfl,rfl⟩
     by_cases hd:isDig (at8 m k)=true
     ·rw [hd]
      go_wp2_with fail
      go_roundw
      case rel=>exact ⟨k+1,by omega,by go_num,HT.out hd,by trivial⟩
      case measure=>simp [intOf];omega
     ·have hd':isDig (at8 m k)=false:=by simpa using hd
      rw [hd']
      have HB:=Lib.hid (BAD.out (N3.out (HF.out hd')))
      go_wp2_with fail
      go_ret2
      exact ⟨ret_ii HB.out.2.symm HB.out.1.symm,Below.refl _ _⟩
    ·have hall:=HA.out
     rw [List.take_of_length_le (by omega)] at hall
     have hr:=Y.out H0.out HZ.out hall
     go_wp2_with fail
     refine (atoi_any l _ (by omega) hr he).mono ?_
     rintro e w2 ⟨hb,h | h⟩
     ·obtain ⟨hf,rfl⟩:=h
      have G:=Lib.hid (num_good hr hf)
      clear hf hall hr
      go_wp2_with fail
      go_ret2
      exact ⟨ret_ii G.out.2.symm G.out.1.symm,hb⟩
     ·obtain ⟨hf,v,N,rfl⟩:=h
      have G:=Lib.hid (num_big hr hf)
      clear hf hall hr
      go_wp2_with fail
      go_ret2
      exact ⟨ret_ii G.out.2.symm G.out.1.symm,hb⟩
 ·have hz1:m.head? = some 48∧l≠[48]:=by
   constructor
   ·exact Classical.not_not.1 (fun h=>hz (.inl h))
   ·exact fun h=>hz (.inr h)
  have HB:=Lib.hid (BAD.out (N2.out hz1.1 hz1.2))
  have h1:(((at8 m 0).toNat:Int) == 48)=true:=by
   have:=hz1.1
   rw [hh.out] at this
   injection this with this
   rw [this];rfl
  have h2:(!(l == [48]))=true:=by simpa using hz1.2
  clear hz hz1
  go_wp2_with fail
  go_ret2
  exact ⟨ret_ii HB.out.2.symm HB.out.1.symm,Below.refl _ _⟩
end Go.Proofs.YtljekdpgjaahjaaGreatDoor

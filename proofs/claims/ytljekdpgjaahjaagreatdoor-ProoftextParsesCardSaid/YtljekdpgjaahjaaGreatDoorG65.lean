/- the reference's Number, Decimal. -/
import Derived.Test.YtljekdpgjaahjaaGreatDoorG51
namespace Go.Proofs.YtljekdpgjaahjaaGreatDoor
open Go.RowKit Num Txt
set_option linter.unusedVariables false
attribute [local go_sem] B_size B_get B_toList B_mk B_extract B_append
theorem mag_drop {l:List UInt8} {f:Nat} (h:neg? l=decide (f=1)) (hf:f=0∨f=1):mag l=l.drop f:=by
 unfold mag
 rcases hf with rfl | rfl
 ·rw [h];simp
 ·rw [h];cases l <;> simp
theorem seg_full (l:List UInt8) (f:Nat):seg l f l.length=val (l.drop f):=by unfold seg;rw [List.take_of_length_le (Nat.le_refl _)]
theorem seg_mono {l:List UInt8} {f k:Nat} (hf:f≤k) (hk:k≤l.length):seg l f k≤seg l f l.length:=by
 have:∀ j,k+j≤l.length→seg l f k≤seg l f (k+j):=by
  intro j
  induction j with
  |zero=>intro _;exact Nat.le_refl _
  |succ j ih =>
   intro h
   have h1:=ih (by omega)
   have h2:=seg_succ l f (k+j) (by omega) (by omega)
   rw [← Nat.add_assoc,h2];omega
 have h:=this (l.length - k) (by omega)
 rwa [show k+(l.length - k)=l.length by omega] at h
theorem rnumber_any (l:List UInt8) (w:World) (hs:l.length≤1000000) :
  Calls Tryz.prog 83 #[.string (B l)] w fun e w'=>e=.returned (.tuple #[.int .i64 (numV l),.int .i64 (numE l)])∧w'=w:=by
 have BAD:=Lib.hid (fun h=>num_bad (s:=l) h)
 by_cases h0:l=[]
 ·subst h0
  have HB:=Lib.hid (BAD.out (rightI_no_empty rfl))
  go_enter Tryz.func83,Tryz.ntmps83
  go_wp2_with fail
  go_ret2
  exact ⟨ret_ii HB.out.2.symm HB.out.1.symm,rfl⟩
 have hlen:0<l.length:=List.length_pos_iff.2 h0
 have hh:=at8_zero_head l h0
 have start:∃ f:Nat,(f=0∨f=1)∧neg? l=decide (f=1)∧((((at8 l 0).toNat:Int) == 45)=decide (f=1)):=by
  by_cases h:at8 l 0=45
  ·exact ⟨1,.inr rfl,by unfold neg?;rw [hh,h];rfl,by rw [h];rfl⟩
  ·refine ⟨0,.inl rfl,by unfold neg?;rw [hh];simpa using h,?_⟩
   have:¬ (at8 l 0).toNat=45:=fun e=>h (UInt8.toNat_inj.1 (by rw [e];rfl))
   rw [beq_eq_false_iff_ne.2 (by omega)];rfl
 obtain ⟨f,hf01,hneg,h45⟩:=start
 have hmag:=mag_drop hneg hf01
 have hmh:f<l.length→(mag l).head? = some (at8 l f):=by
  intro h
  rw [hmag,List.drop_eq_getElem_cons h];simp [at8_eq l f h]
 have N1:=Lib.hid (@rightI_no_empty l)
 have N2:=Lib.hid (@rightI_no_zero l)
 have N3:=Lib.hid (@rightI_no_digit l)
 have Y:=Lib.hid (@rightI_yes l)
 have MG:=Lib.hid hmag
 have MH:=Lib.hid hmh
 have NG:=Lib.hid hneg
 clear hmag hmh hneg hh
 by_cases hend:f=l.length
 ·have HB:=Lib.hid (BAD.out (N1.out (by rw [MG.out,hend];simp)))
  have f1:f=1:=by omega
  rw [f1] at h45 hend
  have he:((l.length:Int) == 1)=true:=by simp;omega
  go_enter Tryz.func83,Tryz.ntmps83
  go_wp2_with fail
  go_ret2
  exact ⟨ret_ii HB.out.2.symm HB.out.1.symm,rfl⟩
 have hfl:f<l.length:=by omega
 by_cases hz:at8 l f=48∧1<l.length
 ·have HB:=Lib.hid (BAD.out (N2.out (by rw [MH.out hfl,hz.1]) (by rintro e;rw [e] at hz;simp at hz)))
  have h2:(((at8 l f).toNat:Int) == 48)=true:=by rw [hz.1];rfl
  have h3:(1:Int)<(l.length:Int):=by omega
  clear hz
  rcases hf01 with rfl | rfl
  ·have he:((l.length:Int) == 0)=false:=by rw [beq_eq_false_iff_ne];omega
   go_enter Tryz.func83,Tryz.ntmps83
   go_wp2_with fail
   go_ret2
   exact ⟨ret_ii HB.out.2.symm HB.out.1.symm,rfl⟩
  ·have he:((l.length:Int) == 1)=false:=by rw [beq_eq_false_iff_ne];omega
   go_enter Tryz.func83,Tryz.ntmps83
   go_wp2_with fail
   go_ret2
   exact ⟨ret_ii HB.out.2.symm HB.out.1.symm,rfl⟩
 have cases4:(f=1∧(((at8 l 1).toNat:Int) == 48)=false∧(((l.length:Int) == 1)=false∧1<l.length)∧(((at8 l 0).toNat:Int) == 45)=true) ∨
   (f=0∧(((at8 l 0).toNat:Int) == 48)=false∧((l.length:Int) == 0)=false∧(((at8 l 0).toNat:Int) == 45)=false) ∨
   (f=0∧(((at8 l 0).toNat:Int) == 48)=true∧l.length=1∧(((at8 l 0).toNat:Int) == 45)=false):=by
  have ne:∀ j,at8 l j≠48→(((at8 l j).toNat:Int) == 48)=false:=fun j h=>by
   rw [beq_eq_false_iff_ne];intro e;exact h (UInt8.toNat_inj.1 (by simp;omega))
  rcases hf01 with rfl | rfl
  ·by_cases h:at8 l 0=48
   ·exact .inr (.inr ⟨rfl,by rw [h];rfl,by have:¬ 1<l.length:=(fun h'=>hz ⟨h,h'⟩);omega,h45⟩)
   ·exact .inr (.inl ⟨rfl,ne 0 h,by rw [beq_eq_false_iff_ne];omega,h45⟩)
  ·exact .inl ⟨rfl,ne 1 (fun h=>hz ⟨h,by omega⟩),⟨by rw [beq_eq_false_iff_ne];omega,by omega⟩,h45⟩
 have YY:(mag l).all isDig=true→rightI l=true:=by
  intro h
  refine Y.out (by intro e;have:=MH.out hfl;rw [e] at this;cases this) ?_ h
  by_cases e:at8 l f=48
  ·right
   have h1:l.length=1:=by
    have:¬ 1<l.length:=fun h'=>hz ⟨e,h'⟩
    omega
   have f0:f=0:=by omega
   rw [f0] at e
   match l,h1 with
   |[c],_=>simp [at8] at e;rw [e]
  ·left;rw [MH.out hfl];simpa using e
 have HY:=Lib.hid YY
 have hmd:∀ k,f≤k→k<l.length→isDig (at8 l k)=false→(mag l).all isDig=false:=by
  intro k h1 h2 h3
  rw [MG.out,List.all_eq_false]
  refine ⟨l[k],?_,by rw [← at8_eq l k h2,h3];simp⟩
  rw [List.mem_drop_iff_getElem]
  exact ⟨k - f,by omega,by congr 1;omega⟩
 have HMD:=Lib.hid hmd
 have hma:((l.take l.length).drop f).all isDig=(mag l).all isDig:=by rw [List.take_of_length_le (Nat.le_refl _),MG.out]
 have HMA:=Lib.hid hma
 have hsnoc:∀ k,f≤k→k<l.length→((l.take k).drop f).all isDig=true→isDig (at8 l k)=true→((l.take (k+1)).drop f).all isDig=true:=by
  intro k h1 h2 h3 h4
  rw [List.take_succ_eq_append_getElem h2,List.drop_append_of_le_length (by rw [List.length_take];omega),List.all_append,h3]
  simpa [at8_eq l k h2] using h4
 have HSN:=Lib.hid hsnoc
 have hval:valI l=if f=1 then -(seg l f l.length:Int) else (seg l f l.length:Int):=by
  unfold valI
  rw [NG.out,seg_full,← MG.out]
  simp
 have HV:=Lib.hid hval
 clear hz YY hmd hma hsnoc hval hend h45
 rcases cases4 with ⟨f1,c1,⟨c2,c4⟩,c3⟩ | ⟨f1,c1,c2,c3⟩ | ⟨f1,c1,c2,c3⟩
 all_goals
  have F1:=Lib.hid f1
  clear f1
  go_enter Tryz.func83,Tryz.ntmps83
  go_wp2_with fail
  go_loopw [5] (fun i wr=>∃ k:Nat,f≤k∧k≤l.length∧i=.int .i64 k∧((l.take k).drop f).all isDig=true∧wr=w) (fun i _=>l.length - (intOf i).toNat)
  case atStart=>exact ⟨f,Nat.le_refl _,by omega,by rw [F1.out];rfl,by rw [List.drop_of_length_le (by rw [List.length_take];omega)];rfl,by trivial⟩
  case round =>
   obtain ⟨k,hfk,hk,rfl,hall,rfl⟩:=hrel
   have HA:=Lib.hid hall
   clear hall
   by_cases hlt:k<l.length
   ·go_wp2_with fail
    refine (rdigit_any (at8 l k) _).mono ?_
    rintro e w2 ⟨rfl,rfl⟩
    by_cases hd:isDig (at8 l k)=true
    ·have HT:=Lib.hid (HSN.out k hfk hlt HA.out hd)
     rw [hd]
     go_wp2_with fail
     go_roundw
     case rel=>exact ⟨k+1,by omega,by omega,by go_num,HT.out,by trivial⟩
     case measure=>simp [intOf];omega
    ·have hd':isDig (at8 l k)=false:=by simpa using hd
     rw [hd']
     have HB:=Lib.hid (BAD.out (N3.out (HMD.out k hfk hlt hd')))
     go_wp2_with fail
     go_ret2
     exact ⟨ret_ii HB.out.2.symm HB.out.1.symm,rfl⟩
   ·obtain rfl:k=l.length:=by omega
    have had:=HA.out
    rw [HMA.out] at had
    have hr:=HY.out had
    have HR:=Lib.hid hr
    have hdl:∀ k,f≤k→k<l.length→isDig (at8 l k)=true:=by
     intro k h1 h2
     by_cases h3:isDig (at8 l k)=true
     ·exact h3
     ·have:=HMD.out k h1 h2 (by simpa using h3)
      rw [had] at this;cases this
    have HDL:=Lib.hid hdl
    clear hr had hdl hlt
    go_wp2_with fail
    go_loop [6,7,8] (fun n i _=>∃ (k:Nat) (x:Int),f≤k∧k≤l.length∧i=.int .i64 k∧n=.int .i64 x∧x = -(seg l f k:Int) ∧ -9223372036854775808≤x∧x≤0) (fun _ i _=>l.length - (intOf i).toNat)
    case atStart=>exact ⟨f,0,Nat.le_refl _,by omega,by rw [F1.out];rfl,rfl,by rw [seg_self];rfl,by omega,by omega⟩
    case round =>
     obtain ⟨k,x,hfk,hk,rfl,rfl,hx,hx1,hx2⟩:=hrel
     have HX:=Lib.hid hx
     clear hx
     by_cases hlt:k<l.length
     ·have hdg:=HDL.out k hfk hlt
      have HS:=Lib.hid (seg_succ l f k hfk hlt)
      have hm:=seg_mono (show f≤k+1 by omega) (show k+1≤l.length by omega)
      have HM:=Lib.hid hm
      clear hm
      unfold isDig at hdg
      simp at hdg
      have hd1:48≤((at8 l k).toNat:Int):=by omega
      have hd2:((at8 l k).toNat:Int)≤57:=by omega
      have hdv:(dv (at8 l k):Int)=((at8 l k).toNat:Int) - 48:=by unfold dv;omega
      have HD:=Lib.hid hdv
      clear hdv hdg
      have HT:=Lib.hid (tdiv_test x (((at8 l k).toNat:Int) - 48) (by omega) (by omega))
      by_cases ht:10*x - (((at8 l k).toNat:Int) - 48) < -9223372036854775808
      ·have hq:=HT.out.2 ht
       have hnf:¬ fits (valI l):=by
        have h1:=HM.out
        have h2:=HS.out
        have h3:=HX.out
        have h4:=HD.out
        rw [HV.out]
        unfold fits
        split <;> omega
       have HB:=Lib.hid (num_big HR.out hnf)
       clear ht hnf
       go_wp2_with fail
       go_ret2
       exact ⟨ret_ii HB.out.2.symm HB.out.1.symm,rfl⟩
      ·have hq:¬ x<Int.tdiv (-9223372036854775808+(((at8 l k).toNat:Int) - 48)) 10:=fun h=>ht (HT.out.1 h)
       have ht':-9223372036854775808≤10*x - (((at8 l k).toNat:Int) - 48):=by omega
       have hx10:-9223372036854775808≤10*x:=by omega
       clear ht
       go_wp2_with fail
       go_round
       case rel =>
        refine ⟨k+1,10*x - (((at8 l k).toNat:Int) - 48),by omega,by omega,by go_num,by go_num,?_,ht',by omega⟩
        have h2:=HS.out
        have h3:=HX.out
        have h4:=HD.out
        omega
       case measure=>simp [intOf];omega
     ·obtain rfl:k=l.length:=by omega
      first
      |have hf1:f=1:=F1.out
       have hfit:fits (valI l):=by
        have h3:=HX.out
        rw [HV.out,if_pos hf1]
        unfold fits;omega
       have HB:=Lib.hid (num_good HR.out hfit)
       have HE:=Lib.hid (show valI l=x by rw [HV.out,if_pos hf1,HX.out])
       clear hfit hf1
       go_wp2_with fail
       go_ret2
       exact ⟨ret_ii (by rw [HB.out.2,HE.out]) HB.out.1.symm,rfl⟩
      |have hf1:¬ f=1:=by have:=F1.out;omega
       have HE:=Lib.hid (show valI l = -x by rw [HV.out,if_neg hf1,HX.out];omega)
       clear hf1
       by_cases hmin:x = -9223372036854775808
       ·have hnf:¬ fits (valI l):=by
         rw [HE.out]
         unfold fits;omega
        have HB:=Lib.hid (num_big HR.out hnf)
        have hq:(x == -9223372036854775808)=true:=by simpa using hmin
        clear hnf hmin
        go_wp2_with fail
        go_ret2
        exact ⟨ret_ii HB.out.2.symm HB.out.1.symm,rfl⟩
       ·have hfit:fits (valI l):=by
         rw [HE.out]
         unfold fits;omega
        have HB:=Lib.hid (num_good HR.out hfit)
        have hq:(x == -9223372036854775808)=false:=by simpa using hmin
        have hx3:-9223372036854775807≤x:=by omega
        clear hfit hmin
        go_wp2_with fail
        go_ret2
        exact ⟨ret_ii (by rw [HB.out.2,HE.out]) HB.out.1.symm,rfl⟩
theorem one_byte (w:World) (c:Int) (h0:0≤c) (h1:c≤255) :
  (convert 38 9 (.slice (some ⟨w.heap.size,0,none⟩) 1 1)).run Tryz.prog (w.alloc (.cells #[.int .u8 c] 5))=.ok (.string (B [UInt8.ofNat c.toNat])) (w.alloc (.cells #[.int .u8 c] 5)):=by
 have:=OwnS.lit w 5 #[.int .u8 c] w.heap.size 1 (Nat.le_refl _) rfl (by unfold maxLen;omega)
 have e:(#[Value.int .u8 c]).toList=bytes [UInt8.ofNat c.toNat]:=by
  simp only [bytes,List.map_cons,List.map_nil,UInt8.toNat_ofNat']
  congr 2;omega
 rw [e] at this
 exact conv_bytes _ _ _ _ _ _ rfl this
theorem dec_step (m:Nat):dec m=(if m / 10≠0 then dec (m / 10) else []) ++ [dch (m % 10)]:=by
 rw [dec]
 by_cases h:m<10
 ·rw [dif_pos h,if_neg (by omega),Nat.mod_eq_of_lt h];rfl
 ·rw [dif_neg h,if_pos (by omega)]
theorem tail_len {a b c:Str} (h:a=b ++ c) (ha:a.length≤20):c.length≤20:=by rw [h,List.length_append] at ha;omega
theorem rdecimal_any (z:Int) (w:World) (hz:fits z) :
  Calls Tryz.prog 49 #[.int .i64 z] w fun e w'=>e=.returned (.string (B (decI z)))∧Below w.heap.size w w':=by
 have HL:=Lib.hid (dec_len20 hz)
 have HZ:=Lib.hid (show decI z=if z<0 then 45 :: dec z.natAbs else dec z.natAbs from rfl)
 unfold fits at hz
 go_enter Tryz.func49,Tryz.ntmps49
 simp only [B_mk]
 go_wp2_with fail
 go_loopw [3,4,5,6] (fun s l a _ wr=>∃ (x:Int) (t:Str) (b:Bool),s=.string (B t)∧l=.int .i64 x∧a=.bool b ∧ -9223372036854775808≤x∧x≤9223372036854775807∧dec z.natAbs=(if b=true then dec x.natAbs else []) ++ t∧Below w.heap.size w wr)
  (fun _ l a _ _=>match a with | .bool true=>1+(intOf l).natAbs | _=>0)
 case atStart=>exact ⟨z,[],true,rfl,rfl,rfl,hz.1,hz.2,by simp,Below.refl _ _⟩
 case round =>
  obtain ⟨x,t,b,rfl,rfl,rfl,hx1,hx2,hd,hbel⟩:=hrel
  have htl:=tail_len hd HL.out
  have HD:=Lib.hid hd
  clear hd
  cases b with
  |true =>
   have c1:=one_byte wr (48+Int.tmod x 10)
   have c2:=one_byte wr (48 + -Int.tmod x 10)
   have TM:=Lib.hid (tmod_abs x)
   have TD:=Lib.hid (tdiv_abs x)
   have DS:=Lib.hid (dec_step x.natAbs)
   have hm1:-9≤Int.tmod x 10:=by have:=TM.out;omega
   have hm2:Int.tmod x 10≤9:=by have:=TM.out;omega
   have hq:Int.tdiv x 10≤9223372036854775807 ∧ -9223372036854775808≤Int.tdiv x 10:=by have:=TD.out;omega
   obtain ⟨hq1,hq2⟩:=hq
   by_cases hneg:Int.tmod x 10<0
   ·have c3:=c2 (by omega) (by omega)
    have HC:=Lib.hid (show UInt8.ofNat (48 + -Int.tmod x 10).toNat=dch (x.natAbs % 10) by
     unfold dch;exact congrArg UInt8.ofNat (by have:=TM.out;omega))
    clear c1 c2
    by_cases hq0:Int.tdiv x 10=0
    ·have hqt:(Int.tdiv x 10 != 0)=false:=by simp [hq0]
     have HQ:=Lib.hid hq0
     clear hq0
     go_wp2_with fail
     go_roundw
     case rel =>
      refine ⟨Int.tdiv x 10,_,false,rfl,rfl,rfl,hq2,hq1,?_,hbel.alloc hbel.size _⟩
      rw [HD.out,if_pos rfl,DS.out,HC.out]
      have:=TD.out
      have:=HQ.out
      rw [if_neg (by omega)];rfl
     case measure =>
      show 0<_
      simp [intOf];omega
    ·have hqt:(Int.tdiv x 10 != 0)=true:=by simp [hq0]
     have HQ:=Lib.hid hq0
     clear hq0
     go_wp2_with fail
     go_roundw
     case rel =>
      refine ⟨Int.tdiv x 10,_,true,rfl,rfl,rfl,hq2,hq1,?_,hbel.alloc hbel.size _⟩
      rw [HD.out,if_pos rfl,DS.out,HC.out]
      have:=TD.out
      have:=HQ.out
      rw [if_pos (by omega),if_pos rfl,← TD.out]
      simp
     case measure =>
      have:=TD.out
      have:=HQ.out
      have e:x.natAbs.div 10=x.natAbs / 10:=rfl
      simp [intOf];omega
   ·have c3:=c1 (by omega) (by omega)
    have HC:=Lib.hid (show UInt8.ofNat (48+Int.tmod x 10).toNat=dch (x.natAbs % 10) by
     unfold dch;exact congrArg UInt8.ofNat (by have:=TM.out;omega))
    clear c1 c2
    by_cases hq0:Int.tdiv x 10=0
    ·have hqt:(Int.tdiv x 10 != 0)=false:=by simp [hq0]
     have HQ:=Lib.hid hq0
     clear hq0
     go_wp2_with fail
     go_roundw
     case rel =>
      refine ⟨Int.tdiv x 10,_,false,rfl,rfl,rfl,hq2,hq1,?_,hbel.alloc hbel.size _⟩
      rw [HD.out,if_pos rfl,DS.out,HC.out]
      have:=TD.out
      have:=HQ.out
      rw [if_neg (by omega)];rfl
     case measure =>
      show 0<_
      simp [intOf];omega
    ·have hqt:(Int.tdiv x 10 != 0)=true:=by simp [hq0]
     have HQ:=Lib.hid hq0
     clear hq0
     go_wp2_with fail
     go_roundw
     case rel =>
      refine ⟨Int.tdiv x 10,_,true,rfl,rfl,rfl,hq2,hq1,?_,hbel.alloc hbel.size _⟩
      rw [HD.out,if_pos rfl,DS.out,HC.out]
      have:=TD.out
      have:=HQ.out
      rw [if_pos (by omega),if_pos rfl,← TD.out]
      simp
     case measure =>
      have:=TD.out
      have:=HQ.out
      have e:x.natAbs.div 10=x.natAbs / 10:=rfl
      simp [intOf];omega
  |false =>
   have HT:=Lib.hid (show t=dec z.natAbs by rw [HD.out];rfl)
   by_cases h:z<0
   ·have HF:=Lib.hid (show 45 :: t=decI z by rw [HZ.out,if_pos h,HT.out])
    go_wp2_with fail
    go_ret
    exact ⟨ret_str HF.out,hbel⟩
   ·have HF:=Lib.hid (show t=decI z by rw [HZ.out,if_neg h,HT.out])
    go_wp2_with fail
    go_ret
    exact ⟨ret_str HF.out,hbel⟩
end Go.Proofs.YtljekdpgjaahjaaGreatDoor

/- text.digit, letter, Name and the reference's. -/
import Derived.Test.YtjcekdiocliddaaGreatDoorG1
import Derived.Test.YtjcekdiocliddaaGreatDoorG54
import Derived.Test.YtjcekdiocliddaaGreatDoorG10
import Derived.Lib.AtoiErrMem
namespace Go.Proofs.YtjcekdiocliddaaGreatDoor
open Lib (hid)
open Go.RowKit Num Txt
set_option linter.unusedVariables false
attribute [local go_sem] BS Bg Bt Bm Be Ba
theorem rdigit_any (c:UInt8) (w:World):Calls Tryz.prog 167 #[.int .u8 c.toNat] w fun e w'=>e=.returned (.bool (iD c))/\w'=w:=by
 have HR:=hid (show iD c=(decide (48<=c.toNat) && decide (c.toNat<=57)) from rfl);have hc:=c.toNat_lt;generalize c.toNat=x at *;by_cases h1:(48:Int)<=(x:Int)
 ·by_cases h2:(x:Int)<=57
  ·go_enter Tryz.func167,Tryz.ntmps167
   go_wp2_with fail;go_ret;exact ⟨rb (by rw [HR.out,decide_eq_true (by omega:48<=x),decide_eq_true (by omega:x<=57)];rfl),rfl⟩
  ·have h2':(57:Int)<(x:Int):=by omega
   go_enter Tryz.func167,Tryz.ntmps167;go_wp2_with fail;go_ret;exact ⟨rb (by rw [HR.out,decide_eq_true (by omega:48<=x),decide_eq_false (by omega:¬ x<=57)];rfl),rfl⟩
 ·have h1':(x:Int)<48:=by omega
  go_enter Tryz.func167,Tryz.ntmps167;go_wp2_with fail;go_ret;exact ⟨rb (by rw [HR.out,decide_eq_false (by omega:¬ 48<=x)];rfl),rfl⟩
def letN (x:Nat):Bool:=(decide (97<=x) && decide (x<=122)) || (decide (65<=x) && decide (x<=90)) || decide (x=95)
theorem letN_t {x:Nat} (h:97<=x/\x<=122∨65<=x/\x<=90∨x=95):letN x=true:=by unfold letN;simp;omega
theorem letN_f {x:Nat} (h:¬ (97<=x/\x<=122∨65<=x/\x<=90∨x=95)):letN x=false:=by
 have:¬ letN x=true:=by unfold letN;simp;omega
 simpa using this
theorem trletter_any (c:UInt8) (w:World):Calls Tryz.prog 168 #[.int .u8 c.toNat] w fun e w'=>e=.returned (.bool (isLet c))/\w'=w:=by
 have HR:=hid (show isLet c=letN c.toNat from rfl);have hc:=c.toNat_lt;generalize c.toNat=x at *;have fin:∀ b,letN x=b->isLet c=b:=fun b h=>by rw [HR.out,h]
 have FIN:=hid fin;clear fin HR;by_cases h1:(97:Int)<=(x:Int)
 ·by_cases h2:(x:Int)<=122
  ·go_enter Tryz.func168,Tryz.ntmps168
   go_wp2_with fail;go_ret;exact ⟨rb (FIN.out _ (letN_t (by omega))).symm,rfl⟩
  ·have h2':(122:Int)<(x:Int):=by omega
   have h4:((x:Int) == 95)=false:=by simp;omega
   have h3:(65:Int)<=(x:Int):=by omega
   have h5:(90:Int)<(x:Int):=by omega
   go_enter Tryz.func168,Tryz.ntmps168;go_wp2_with fail;go_ret;exact ⟨rb (by rw [FIN.out _ (letN_f (by omega))];simp;omega),rfl⟩
 ·have h1':(x:Int)<97:=by omega
  by_cases h3:(65:Int)<=(x:Int)
  ·by_cases h5:(x:Int)<=90
   ·go_enter Tryz.func168,Tryz.ntmps168
    go_wp2_with fail;go_ret;exact ⟨rb (FIN.out _ (letN_t (by omega))).symm,rfl⟩
   ·have h5':(90:Int)<(x:Int):=by omega
    by_cases h6:x=95
    ·have h4:((x:Int) == 95)=true:=by simp;omega
     go_enter Tryz.func168,Tryz.ntmps168;go_wp2_with fail;go_ret;exact ⟨rb (FIN.out _ (letN_t (by omega))).symm,rfl⟩
    ·have h4:((x:Int) == 95)=false:=by simp;omega
     go_enter Tryz.func168,Tryz.ntmps168;go_wp2_with fail;go_ret;exact ⟨rb (FIN.out _ (letN_f (by omega))).symm,rfl⟩
  ·have h3':(x:Int)<65:=by omega
   have h4:((x:Int) == 95)=false:=by simp;omega
   go_enter Tryz.func168,Tryz.ntmps168;go_wp2_with fail;go_ret;exact ⟨rb (FIN.out _ (letN_f (by omega))).symm,rfl⟩
theorem Cc (s:Sr):NK s=true↔(1<=s.length/\s.length<=16/\iD (at8 s 0)=false/\s.all (fun c=>isLet c || iD c)=true):=by
 unfold NK at8;simp [and_assoc]
def nch (c:UInt8):Bool:=isLet c || iD c
theorem nameOK_no {s:Sr} (h:¬ (1<=s.length/\s.length<=16/\iD (at8 s 0)=false/\s.all nch=true)):NK s=false:=by
 have:=mt (Cc s).1 h;simpa using this
theorem nameOK_yes {s:Sr} (h:1<=s.length/\s.length<=16/\iD (at8 s 0)=false/\s.all nch=true):NK s=true:=(Cc s).2 h
theorem Ry (l:List UInt8) (w:World) (hs:l.length<=maxLen) :
  Calls Tryz.prog 140 #[.string (B l)] w fun e w'=>e=.returned (.bool (NK l))/\w'=w:=by
 unfold maxLen at hs;have NO:=hid (@nameOK_no l);have YES:=hid (@nameOK_yes l);by_cases h0:l=[]
 ·subst h0
  go_enter Tryz.func140,Tryz.ntmps140;go_wp2_with fail;go_ret;exact ⟨rfl,rfl⟩
 ·have hlen:0<l.length:=List.length_pos_iff.2 h0
  have he:(l == [])=false:=by simpa using h0
  by_cases h16:(16:Int)<(l.length:Int)
  ·go_enter Tryz.func140,Tryz.ntmps140
   go_wp2_with fail;go_ret;exact ⟨rb (NO.out (by omega)).symm,rfl⟩
  ·have h16':(l.length:Int)<=16:=by omega
   clear h0;go_enter Tryz.func140,Tryz.ntmps140;go_wp2_with fail;refine (rdigit_any (at8 l 0) w).mono ?_;rintro e w' ⟨rfl,rfl⟩;by_cases hd0:iD (at8 l 0)=true
   ·go_wp2_with fail
    go_ret;exact ⟨rb (NO.out (by rw [hd0];simp)).symm,rfl⟩
   ·have hd1:iD (at8 l 0)=false:=by simpa using hd0
    clear hd0;go_wp2_with fail;go_loopw [3] (fun i wr=>∃ k:Nat,k<=l.length/\i=.int .i64 k/\(l.take k).all nch=true/\wr=w') (fun i _=>l.length - (intOf i).toNat)
    case atStart=>exact ⟨0,Nat.zero_le _,rfl,by simp,by trivial⟩
    case round =>
     obtain ⟨k,hk,rfl,hall,rfl⟩:=hrel;have HA:=hid hall;clear hall;by_cases hlt:k<l.length
     ·have HT:=hid (fun h=>aC (p:=nch) hlt HA.out h)
      have HF:=hid (fun h=>not_all_of (p:=nch) hlt h);have HN:=hid (show nch (at8 l k)=(isLet (at8 l k) || iD (at8 l k)) from rfl);go_wp2_with fail;refine (trletter_any (at8 l k) _).mono ?_;rintro e w2 ⟨rfl,rfl⟩;by_cases hl:isLet (at8 l k)=true
      ·rw [hl]
       go_wp2_with fail;go_roundw
       case rel=>exact ⟨k+1,by omega,by go_num,HT.out (by rw [HN.out,hl];rfl),by trivial⟩
       case measure=>simp [intOf];omega
      ·have hl':isLet (at8 l k)=false:=by simpa using hl
       rw [hl'];go_wp2_with fail;refine (rdigit_any (at8 l k) _).mono ?_;rintro e w3 ⟨rfl,rfl⟩;by_cases hd:iD (at8 l k)=true
       ·rw [hd]
        go_wp2_with fail;go_roundw
        case rel=>exact ⟨k+1,by omega,by go_num,HT.out (by rw [HN.out,hd];simp),by trivial⟩
        case measure=>simp [intOf];omega
       ·have hd':iD (at8 l k)=false:=by simpa using hd
        rw [hd'];go_wp2_with fail;go_ret;exact ⟨rb (NO.out (by rw [HF.out (by rw [HN.out,hl',hd'];rfl)];simp)).symm,rfl⟩
     ·go_wp2_with fail
      go_ret;have:=HA.out;rw [List.take_of_length_le (by omega)] at this;exact ⟨rb (YES.out ⟨by omega,by omega,hd1,this⟩).symm,rfl⟩
theorem one_byte (w:World) (c:Int) (h0:0<=c) (h1:c<=255) :
  (convert 241 9 (.slice (some ⟨w.heap.size,0,none⟩) 1 1)).run Tryz.prog (w.alloc (.cells #[.int .u8 c] 5))=.ok (.string (B [UInt8.ofNat c.toNat])) (w.alloc (.cells #[.int .u8 c] 5)):=by
 have:=OS.lit w 5 #[.int .u8 c] w.heap.size 1 (Nat.le_refl _) rfl (by unfold maxLen;omega)
 have e:(#[Value.int .u8 c]).toList=bytes [UInt8.ofNat c.toNat]:=by
  simp only [bytes,List.map_cons,List.map_nil,UInt8.toNat_ofNat'];congr 2;omega
 rw [e] at this;exact conv_bytes _ _ _ _ _ _ rfl this
theorem dec_step (m:Nat):dec m=(if m / 10≠0 then dec (m / 10) else []) ++ [dch (m % 10)]:=by
 rw [dec];by_cases h:m<10
 ·rw [dif_pos h,if_neg (by omega),Nat.mod_eq_of_lt h];rfl
 ·rw [dif_neg h,if_pos (by omega)]
theorem tail_len {a b c:Sr} (h:a=b ++ c) (ha:a.length<=20):c.length<=20:=by rw [h,List.length_append] at ha;omega
theorem rA (z:Int) (w:World) (hz:fits z) :
  Calls Tryz.prog 102 #[.int .i64 z] w fun e w'=>e=.returned (.string (B (dI z)))/\Below w.heap.size w w':=by
 have HL:=hid (dec_len20 hz);have HZ:=hid (show dI z=if z<0 then 45 :: dec z.natAbs else dec z.natAbs from rfl);unfold fits at hz;go_enter Tryz.func102,Tryz.ntmps102;simp only [Bm];go_wp2_with fail
 go_loopw [3,4,5,6] (fun s l a _ wr=>∃ (x:Int) (t:Sr) (b:Bool),s=.string (B t)/\l=.int .i64 x/\a=.bool b /\ -9223372036854775808<=x/\x<=9223372036854775807/\dec z.natAbs=(if b=true then dec x.natAbs else []) ++ t/\Below w.heap.size w wr)
  (fun _ l a _ _=>match a with | .bool true=>1+(intOf l).natAbs | _=>0)
 case atStart=>exact ⟨z,[],true,rfl,rfl,rfl,hz.1,hz.2,by simp,Below.refl _ _⟩
 case round =>
  obtain ⟨x,t,b,rfl,rfl,rfl,hx1,hx2,hd,hbel⟩:=hrel;have htl:=tail_len hd HL.out;have HD:=hid hd;clear hd
  cases b with
  |true =>
   have c1:=one_byte wr (48+Int.tmod x 10);have c2:=one_byte wr (48 + -Int.tmod x 10);have TM:=hid (tmod_abs x);have TD:=hid (tdiv_abs x);have DS:=hid (dec_step x.natAbs);have hm1:-9<=Int.tmod x 10:=by have:=TM.out;omega
   have hm2:Int.tmod x 10<=9:=by have:=TM.out;omega
   have hq:Int.tdiv x 10<=9223372036854775807 /\ -9223372036854775808<=Int.tdiv x 10:=by have:=TD.out;omega
   obtain ⟨hq1,hq2⟩:=hq;by_cases hneg:Int.tmod x 10<0
   ·have c3:=c2 (by omega) (by omega)
    have HC:=hid (show UInt8.ofNat (48 + -Int.tmod x 10).toNat=dch (x.natAbs % 10) by
     unfold dch;exact congrArg UInt8.ofNat (by have:=TM.out;omega))
    clear c1 c2;by_cases hq0:Int.tdiv x 10=0
    ·have hqt:(Int.tdiv x 10 != 0)=false:=by simp [hq0]
     have HQ:=hid hq0;clear hq0;go_wp2_with fail;go_roundw
     case rel =>
      refine ⟨Int.tdiv x 10,_,false,rfl,rfl,rfl,hq2,hq1,?_,hbel.alloc hbel.size _⟩;rw [HD.out,if_pos rfl,DS.out,HC.out];have:=TD.out;have:=HQ.out;rw [if_neg (by omega)];rfl
     case measure =>
      show 0<_
      simp [intOf];omega
    ·have hqt:(Int.tdiv x 10 != 0)=true:=by simp [hq0]
     have HQ:=hid hq0;clear hq0;go_wp2_with fail;go_roundw
     case rel =>
      refine ⟨Int.tdiv x 10,_,true,rfl,rfl,rfl,hq2,hq1,?_,hbel.alloc hbel.size _⟩;rw [HD.out,if_pos rfl,DS.out,HC.out];have:=TD.out;have:=HQ.out;rw [if_pos (by omega),if_pos rfl,<- TD.out];simp
     case measure =>
      have:=TD.out;have:=HQ.out;have e:x.natAbs.div 10=x.natAbs / 10:=rfl;simp [intOf];omega
   ·have c3:=c1 (by omega) (by omega)
    have HC:=hid (show UInt8.ofNat (48+Int.tmod x 10).toNat=dch (x.natAbs % 10) by
     unfold dch;exact congrArg UInt8.ofNat (by have:=TM.out;omega))
    clear c1 c2;by_cases hq0:Int.tdiv x 10=0
    ·have hqt:(Int.tdiv x 10 != 0)=false:=by simp [hq0]
     have HQ:=hid hq0;clear hq0;go_wp2_with fail;go_roundw
     case rel =>
      refine ⟨Int.tdiv x 10,_,false,rfl,rfl,rfl,hq2,hq1,?_,hbel.alloc hbel.size _⟩;rw [HD.out,if_pos rfl,DS.out,HC.out];have:=TD.out;have:=HQ.out;rw [if_neg (by omega)];rfl
     case measure =>
      show 0<_
      simp [intOf];omega
    ·have hqt:(Int.tdiv x 10 != 0)=true:=by simp [hq0]
     have HQ:=hid hq0;clear hq0;go_wp2_with fail;go_roundw
     case rel =>
      refine ⟨Int.tdiv x 10,_,true,rfl,rfl,rfl,hq2,hq1,?_,hbel.alloc hbel.size _⟩;rw [HD.out,if_pos rfl,DS.out,HC.out];have:=TD.out;have:=HQ.out;rw [if_pos (by omega),if_pos rfl,<- TD.out];simp
     case measure =>
      have:=TD.out;have:=HQ.out;have e:x.natAbs.div 10=x.natAbs / 10:=rfl;simp [intOf];omega
  |false =>
   have HT:=hid (show t=dec z.natAbs by rw [HD.out];rfl);by_cases h:z<0
   ·have HF:=hid (show 45 :: t=dI z by rw [HZ.out,if_pos h,HT.out])
    go_wp2_with fail;go_ret;exact ⟨Aq HF.out,hbel⟩
   ·have HF:=hid (show t=dI z by rw [HZ.out,if_neg h,HT.out])
    go_wp2_with fail;go_ret;exact ⟨Aq HF.out,hbel⟩
end Go.Proofs.YtjcekdiocliddaaGreatDoor

/- Plain arithmetic of the reference: digits from the right. -/
import Derived.Test.YtljekdpgjaahjaaGreatDoorG2
import Derived.Test.YtljekdpgjaahjaaGreatDoorG8
import Derived.Test.YtljekdpgjaahjaaGreatDoorG9
import Derived.Test.YtljekdpgjaahjaaGreatDoorGcd
namespace Go.Proofs.YtljekdpgjaahjaaGreatDoor
open Num
def dg (x i:Nat):Nat:=x / 10 ^ i % 10
theorem dg_lt (x i:Nat):dg x i<10:=Nat.mod_lt _ (by omega)
theorem dg_at {l:List UInt8} (h:l.all isDig=true) {i:Nat} (hi:i<l.length):dv (at8 l (l.length - 1 - i))=dg (val l) i:=by
 obtain ⟨j,hj⟩:∃ j,j=l.length - 1 - i:=⟨_,rfl⟩
 have h1:=val_split l (j+1) (by omega)
 have h2:l.length - (j+1)=i:=by omega
 rw [h2] at h1
 have h3:l.take (j+1)=l.take j ++ [at8 l j]:=by rw [List.take_succ_eq_append_getElem (by omega),at8_eq l j (by omega)]
 rw [h3,val_snoc] at h1
 have h4:seg l (j+1) l.length<10 ^ i:=by
  have:=val_lt _ (all_sub h (j+1) l.length)
  rwa [List.length_drop,List.length_take,Nat.min_self,h2] at this
 have h5:dv (at8 l j)<10:=by
  apply dv_lt
  have:=dig_of_all h (k:=j) (by omega)
  unfold isDig;simp;exact this
 rw [← hj,dg,h1,Nat.mul_comm _ (10 ^ i),Nat.mul_add_div (Nat.pow_pos (by omega)),Nat.div_eq_of_lt h4]
 omega
theorem dg_zero {x i:Nat} (h:x<10 ^ i):dg x i=0:=by rw [dg,Nat.div_eq_of_lt h]
theorem mod_succ (x k:Nat):x % 10 ^ (k+1)=x % 10 ^ k+10 ^ k*dg x k:=by rw [Nat.pow_succ,Nat.mod_mul];rfl
theorem digs_front (k d r:Nat) (hd:d<10) (hr:r<10 ^ k):digs (k+1) (d*10 ^ k+r)=dch d :: digs k r:=by
 induction k generalizing r with
 |zero =>
  rw [Nat.pow_zero] at hr
  have:r=0:=by omega
  subst this
  simp [digs];rw [Nat.mod_eq_of_lt hd]
 |succ k ih =>
  have e1:∀ m,digs (k+1+1) m=digs (k+1) (m / 10) ++ [dch (m % 10)]:=fun _=>rfl
  have e2:digs (k+1) r=digs k (r / 10) ++ [dch (r % 10)]:=rfl
  rw [e1,e2]
  have h1:r / 10<10 ^ k:=by rw [Nat.pow_succ] at hr;omega
  have h2:d*10 ^ (k+1)=10*(d*10 ^ k):=by rw [Nat.pow_succ,← Nat.mul_assoc,Nat.mul_comm]
  rw [h2,show (10*(d*10 ^ k)+r) / 10=d*10 ^ k+r / 10 by omega,show (10*(d*10 ^ k)+r) % 10=r % 10 by omega,ih _ h1]
  rfl
theorem digs_eq_dec {L s:Nat} (hL:0<L) (hs:s<10 ^ L) (h:L=1∨10 ^ (L - 1)≤s):digs L s=dec s:=by
 rw [digs_pad L s hL hs]
 have h1:(dec s).length≤L:=(length_dec_le hL).2 hs
 have h2:L≤(dec s).length:=by
  rcases h with h | h
  ·have:=length_dec_pos s;omega
  ·rcases Nat.lt_or_ge (dec s).length L with h3 | h3
   ·have:=length_dec_pos s
    have:=(length_dec_le (n:=s) (k:=L - 1) (by omega)).1 (by omega)
    omega
   ·exact h3
 rw [show L - (dec s).length=0 by omega];rfl
theorem dec_carry {L c r:Nat} (hc:0<c) (hc9:c<10) (hr:r<10 ^ L):dch c :: digs L r=dec (c*10 ^ L+r):=by
 rw [dec_mul_add L c r hc hr,dec_lt hc9];rfl
theorem dec_len_ge (x:Nat):(dec x).length=1∨10 ^ ((dec x).length - 1)≤x:=by
 rcases Nat.lt_or_ge 1 (dec x).length with h | h
 ·right
  rcases Nat.lt_or_ge x (10 ^ ((dec x).length - 1)) with h1 | h1
  ·have:=(length_dec_le (n:=x) (k:=(dec x).length - 1) (by omega)).2 h1;omega
  ·exact h1
 ·left;have:=length_dec_pos x;omega
theorem dec_lt_len (x:Nat):x<10 ^ (dec x).length:=(length_dec_le (length_dec_pos x)).1 (Nat.le_refl _)
def sumOut (x y k:Nat):List UInt8:=digs k ((x % 10 ^ k+y % 10 ^ k) % 10 ^ k)
def sumCarry (x y k:Nat):Nat:=(x % 10 ^ k+y % 10 ^ k) / 10 ^ k
theorem sumCarry_le (x y k:Nat):sumCarry x y k≤1:=by
 have h:=Nat.pow_pos (n:=k) (show 0<10 by omega)
 have h1:=Nat.mod_lt x h
 have h2:=Nat.mod_lt y h
 have:sumCarry x y k<2:=by unfold sumCarry;rw [Nat.div_lt_iff_lt_mul h];omega
 omega
theorem sum_step (x y k:Nat):sumOut x y (k+1)=dch ((dg x k+dg y k+sumCarry x y k) % 10) :: sumOut x y k∧sumCarry x y (k+1)=(dg x k+dg y k+sumCarry x y k) / 10:=by
 unfold sumOut sumCarry
 rw [mod_succ x,mod_succ y]
 generalize hX:x % 10 ^ k=X
 generalize hY:y % 10 ^ k=Y
 have h:=Nat.pow_pos (n:=k) (show 0<10 by omega)
 generalize dg x k=dx
 generalize dg y k=dy
 have e:X+10 ^ k*dx+(Y+10 ^ k*dy)=(X+Y) % 10 ^ k+10 ^ k*(dx+dy+(X+Y) / 10 ^ k):=by
  have:=Nat.div_add_mod (X+Y) (10 ^ k)
  rw [Nat.mul_add,Nat.mul_add];omega
 rw [e]
 generalize hn:dx+dy+(X+Y) / 10 ^ k=n
 have hm:=Nat.mod_lt (X+Y) h
 generalize (X+Y) % 10 ^ k=m at *
 have e2:m+10 ^ k*n=(n / 10)*10 ^ (k+1)+((n % 10)*10 ^ k+m):=by
  have h3:10 ^ k*n=10 ^ k*(10*(n / 10)+n % 10):=by congr 1;omega
  rw [h3,Nat.mul_add,Nat.pow_succ,← Nat.mul_assoc,Nat.mul_comm (n / 10),Nat.mul_comm (n % 10)];omega
 have hlt:(n % 10)*10 ^ k+m<10 ^ (k+1):=by
  have:=Nat.mul_le_mul_right (10 ^ k) (show n % 10+1≤10 by omega)
  rw [Nat.add_mul] at this
  rw [Nat.pow_succ];omega
 rw [e2]
 constructor
 ·rw [Nat.mul_comm,Nat.mul_add_mod,Nat.mod_eq_of_lt hlt,digs_front k _ _ (by omega) hm]
 ·rw [Nat.mul_comm,Nat.mul_add_div (Nat.pow_pos (by omega)),Nat.div_eq_of_lt hlt];omega
theorem sum_zero (x y:Nat):sumOut x y 0=[]∧sumCarry x y 0=0:=by
 unfold sumOut sumCarry;simp [digs,Nat.mod_one]
theorem sum_end (x y:Nat):(if 0<sumCarry x y (max (dec x).length (dec y).length) then dch (sumCarry x y (max (dec x).length (dec y).length)) :: sumOut x y (max (dec x).length (dec y).length) else sumOut x y (max (dec x).length (dec y).length))=dec (x+y):=by
 generalize hL:max (dec x).length (dec y).length=L
 have h1:x<10 ^ L:=Nat.lt_of_lt_of_le (dec_lt_len x) (Nat.pow_le_pow_right (by omega) (by omega))
 have h2:y<10 ^ L:=Nat.lt_of_lt_of_le (dec_lt_len y) (Nat.pow_le_pow_right (by omega) (by omega))
 have hc:=sumCarry_le x y L
 have hpos:=length_dec_pos x
 unfold sumOut
 unfold sumCarry at *
 rw [Nat.mod_eq_of_lt h1,Nat.mod_eq_of_lt h2] at *
 have h:=Nat.pow_pos (n:=L) (show 0<10 by omega)
 have hd:=Nat.div_add_mod (x+y) (10 ^ L)
 have hm:=Nat.mod_lt (x+y) h
 generalize (x+y) / 10 ^ L=cy at *
 by_cases hcp:0<cy
 ·rw [if_pos hcp,dec_carry hcp (by omega) hm,Nat.mul_comm,hd]
 ·rw [if_neg hcp]
  have h0:cy=0:=by omega
  rw [h0,Nat.mul_zero,Nat.zero_add] at hd
  rw [hd] at hm ⊢
  refine digs_eq_dec (by omega) (by omega) ?_
  rcases Nat.le_total (dec y).length (dec x).length with h9 | h9
  ·have hLx:L=(dec x).length:=by omega
   rw [hLx]
   rcases dec_len_ge x with h8 | h8
   ·left;exact h8
   ·right;omega
  ·have hLy:L=(dec y).length:=by omega
   rw [hLy]
   rcases dec_len_ge y with h8 | h8
   ·left;exact h8
   ·right;omega
theorem val_drop_zero (l:List UInt8):val (48 :: l)=val l:=by rw [val_cons];simp [dv]
theorem less_step (x y k t borrow d borrow':Nat) (h:x % 10 ^ k+10 ^ k*borrow=y % 10 ^ k+t) (hd:d+dg y k+borrow=dg x k+10*borrow') :
  x % 10 ^ (k+1)+10 ^ (k+1)*borrow'=y % 10 ^ (k+1)+(d*10 ^ k+t):=by
 rw [mod_succ x,mod_succ y,Nat.pow_succ,Nat.mul_assoc]
 have:=congrArg (10 ^ k * ·) hd
 simp only [Nat.mul_add] at this
 rw [Nat.mul_comm d]
 omega
theorem digs_lt_step (k d t:Nat) (hd:d<10) (ht:t<10 ^ k):d*10 ^ k+t<10 ^ (k+1):=by
 have:=Nat.mul_le_mul_right (10 ^ k) (show d+1≤10 by omega)
 rw [Nat.add_mul] at this
 rw [Nat.pow_succ];omega
theorem val_digs (k m:Nat) (h:m<10 ^ k):val (digs k m)=m:=by
 induction k generalizing m with
 |zero =>
  rw [Nat.pow_zero] at h
  have:m=0:=by omega
  subst this;rfl
 |succ k ih =>
  rw [Nat.pow_succ] at h
  rw [digs,val_snoc,ih _ (by omega),dv_dch (by omega)];omega
theorem digs_all (k m:Nat):(digs k m).all isDig=true:=by
 induction k generalizing m with
 |zero=>rfl
 |succ k ih=>rw [digs,List.all_append,ih];simp [isDig_dch (show m % 10<10 by omega)]
end Go.Proofs.YtljekdpgjaahjaaGreatDoor
namespace Go.Proofs.YtljekdpgjaahjaaGreatDoor
open Go.RowKit Num
attribute [local go_sem] B_size B_get B_toList B_mk
set_option maxHeartbeats 400000 in
theorem ref_right_any (l:List UInt8) (w:World) (hs:l.length≤maxLen) :
  Calls Tryz.prog 98 #[.string (B l)] w fun e w'=>e=.returned (.bool (right l))∧w'=w:=by
 unfold maxLen at hs
 by_cases h0:l=[]
 ·subst h0
  go_enter Tryz.func98,Tryz.ntmps98
  go_wp2
  go_ret
  exact ⟨rfl,rfl⟩
 ·have hlen:0<l.length:=List.length_pos_iff.2 h0
  have he:l.isEmpty=false:=by simpa using h0
  have hne:((l.length:Int) == 0)=false:=by rw [beq_eq_false_iff_ne];omega
  have hh:=Lib.hid (at8_zero_head l h0)
  have loop:decide ((1:Int)<l.length)=false∨(decide ((1:Int)<l.length)=true∧(((at8 l 0).toNat:Int) == 48)=false) →
    Calls Tryz.prog 98 #[.string (B l)] w fun e w'=>e=.returned (.bool (right l))∧w'=w:=by
   intro hor
   have hr:right l=l.all isDig:=by
    unfold right;rw [he,hh.out]
    rcases hor with h | ⟨h,h1⟩
    ·have h1:l.length=1:=by simp at h;omega
     match l,h1 with
     |[c],_=>by_cases hc:c=48 <;> simp [at8,hc]
    ·have:at8 l 0≠48:=by rintro e;rw [e] at h1;simp at h1
     simp [this]
   have HR:=Lib.hid hr
   clear hr hh h0
   rcases hor with h1 | ⟨h1,h2⟩
   all_goals
    go_enter Tryz.func98,Tryz.ntmps98
    go_wp2
    go_loop [3] (fun i=>∃ k:Nat,k≤l.length∧i=.int .i64 k∧(l.take k).all isDig=true) (fun i=>l.length - (intOf i).toNat)
    case atStart=>exact ⟨0,Nat.zero_le _,rfl,by simp⟩
    case round =>
     obtain ⟨k,hk,rfl,hall⟩:=hrel
     have HA:=Lib.hid hall
     clear hall h1
     by_cases hlt:k<l.length
     ·by_cases hd:isDig (at8 l k)=true
      ·have hd':48≤((at8 l k).toNat:Int)∧((at8 l k).toNat:Int)≤57:=by simp [isDig] at hd;omega
       have HT:=Lib.hid (all_take_succ hlt HA.out hd)
       clear hd
       go_wp2
       go_round
       case rel=>exact ⟨k+1,by omega,by go_num,HT.out⟩
       case measure=>simp [intOf];omega
      ·have HT:=Lib.hid (not_all_of (p:=isDig) hlt (by simpa using hd))
       by_cases hlo:((at8 l k).toNat:Int)<48
       ·clear hd
        go_wp2
        go_ret
        exact ⟨ret_bool (by rw [HR.out,HT.out]),rfl⟩
       ·have hhi:(57:Int)<((at8 l k).toNat:Int):=by simp [isDig] at hd;omega
        clear hd
        go_wp2
        go_ret
        exact ⟨ret_bool (by rw [HR.out,HT.out]),rfl⟩
     ·go_wp2
      go_ret
      exact ⟨ret_bool (by rw [HR.out,← HA.out,List.take_of_length_le (by omega)]),rfl⟩
  by_cases h1:decide ((1:Int)<l.length)=true
  ·by_cases h2:(((at8 l 0).toNat:Int) == 48)=false
   ·exact loop (.inr ⟨h1,h2⟩)
   ·have h2':(((at8 l 0).toNat:Int) == 48)=true:=by simpa using h2
    have hr:right l=false:=by
     unfold right;rw [he,hh.out]
     have:at8 l 0=48:=by apply UInt8.toNat_inj.1;simp at h2';simp;omega
     rw [this]
     have:(l == [48])=false:=by
      rw [beq_eq_false_iff_ne];intro e;rw [e] at h1;simp at h1
     simp [this]
    have HR:=Lib.hid hr
    clear hr hh h0 h2 loop
    go_enter Tryz.func98,Tryz.ntmps98
    go_wp2
    go_ret
    exact ⟨ret_bool HR.out.symm,rfl⟩
  ·exact loop (.inl (by simpa using h1))
theorem ref_compare_any (a b:List UInt8) (w:World) (ha:a.length≤maxLen) (hb:b.length≤maxLen) :
  Calls Tryz.prog 152 #[.string (B a),.string (B b)] w fun e w'=>e=.returned (.int .i64 (cmpT a b))∧w'=w:=by
 cases h1:right a
 ·have HR:=Lib.hid (show cmpT a b=0 by rw [cmpT,if_neg (by simp [h1])])
  go_enter Tryz.func152,Tryz.ntmps152
  go_wp2_with fail
  refine (ref_right_any _ _ ha).mono ?_;rintro e w' ⟨rfl,rfl⟩
  go_wp2_with fail
  go_ret
  exact ⟨ret_int HR.out.symm,rfl⟩
 ·cases h2:right b
  ·have HR:=Lib.hid (show cmpT a b=0 by rw [cmpT,if_neg (by simp [h2])])
   go_enter Tryz.func152,Tryz.ntmps152
   go_wp2_with fail
   refine (ref_right_any _ _ ha).mono ?_;rintro e w' ⟨rfl,rfl⟩
   go_wp2_with fail
   refine (ref_right_any _ _ hb).mono ?_;rintro e w' ⟨rfl,rfl⟩
   go_wp2_with fail
   go_ret
   exact ⟨ret_int HR.out.symm,rfl⟩
  ·have HR:=Lib.hid (cmp_law h1 h2)
   unfold maxLen at ha hb
   by_cases e1:a=b
   ·have HQ:=Lib.hid (show cmpT a b=0 by subst e1;rw [cmpT_right h1 h1,cmpI,if_neg (by omega),if_neg (by omega)])
    have e1':(a == b)=true:=by simpa using e1
    clear HR e1
    go_enter Tryz.func152,Tryz.ntmps152
    go_wp2_with fail
    refine (ref_right_any _ _ ha).mono ?_;rintro e w' ⟨rfl,rfl⟩
    go_wp2_with fail
    refine (ref_right_any _ _ hb).mono ?_;rintro e w' ⟨rfl,rfl⟩
    go_wp2_with fail
    go_ret
    exact ⟨ret_int HQ.out.symm,rfl⟩
   ·have e1':(a == b)=false:=by simpa using e1
    by_cases e2:a.length<b.length
    ·have HQ:=Lib.hid (show cmpT a b = -1 by rw [← HR.out,cmpI_lt (by omega)];rfl)
     clear HR e1
     go_enter Tryz.func152,Tryz.ntmps152
     go_wp2_with fail
     refine (ref_right_any _ _ ha).mono ?_;rintro e w' ⟨rfl,rfl⟩
     go_wp2_with fail
     refine (ref_right_any _ _ hb).mono ?_;rintro e w' ⟨rfl,rfl⟩
     go_wp2_with fail
     go_ret
     exact ⟨ret_int HQ.out.symm,rfl⟩
    ·by_cases e3:b.length<a.length
     ·have HQ:=Lib.hid (show cmpT a b=1 by rw [← HR.out,cmpI_gt (by omega)];rfl)
      clear HR e1
      go_enter Tryz.func152,Tryz.ntmps152
      go_wp2_with fail
      refine (ref_right_any _ _ ha).mono ?_;rintro e w' ⟨rfl,rfl⟩
      go_wp2_with fail
      refine (ref_right_any _ _ hb).mono ?_;rintro e w' ⟨rfl,rfl⟩
      go_wp2_with fail
      go_ret
      exact ⟨ret_int HQ.out.symm,rfl⟩
     ·have HS:=Lib.hid (show cmpT a b=if Op.bytesLess a b then -1 else 1 by
       rw [← HR.out,cmpI_eq (by omega),cmpS,or2];simp [e1])
      clear HR e1
      cases e4:Op.bytesLess a b
      ·have HQ:=Lib.hid (show cmpT a b=1 by rw [HS.out,e4];rfl)
       go_enter Tryz.func152,Tryz.ntmps152
       go_wp2_with fail
       refine (ref_right_any _ _ ha).mono ?_;rintro e w' ⟨rfl,rfl⟩
       go_wp2_with fail
       refine (ref_right_any _ _ hb).mono ?_;rintro e w' ⟨rfl,rfl⟩
       go_wp2_with fail
       go_ret
       exact ⟨ret_int HQ.out.symm,rfl⟩
      ·have HQ:=Lib.hid (show cmpT a b = -1 by rw [HS.out,e4];rfl)
       go_enter Tryz.func152,Tryz.ntmps152
       go_wp2_with fail
       refine (ref_right_any _ _ ha).mono ?_;rintro e w' ⟨rfl,rfl⟩
       go_wp2_with fail
       refine (ref_right_any _ _ hb).mono ?_;rintro e w' ⟨rfl,rfl⟩
       go_wp2_with fail
       go_ret
       exact ⟨ret_int HQ.out.symm,rfl⟩
end Go.Proofs.YtljekdpgjaahjaaGreatDoor
namespace Go.Proofs.YtljekdpgjaahjaaGreatDoor
open Go.RowKit Num
set_option linter.unusedVariables false
attribute [local go_sem] B_size B_get B_toList B_mk B_extract B_append
attribute [local go_sem high] run_max2
theorem rnwrong_any (a b:List UInt8) (w:World) (ha:a.length≤maxLen) (hb:b.length≤maxLen) :
  Calls Tryz.prog 129 #[.string (B a),.string (B b)] w fun e w'=>e=.returned (.int .i64 (errT a b))∧w'=w:=by
 cases h1:right a
 ·have HR:=Lib.hid (show errT a b=3 by rw [errT,if_neg (by simp [h1])])
  go_enter Tryz.func129,Tryz.ntmps129
  go_wp2_with fail
  refine (ref_right_any _ _ ha).mono ?_;rintro e w' ⟨rfl,rfl⟩
  go_wp2_with fail
  go_ret
  exact ⟨ret_int HR.out.symm,rfl⟩
 ·cases h2:right b
  ·have HR:=Lib.hid (show errT a b=3 by rw [errT,if_neg (by simp [h2])])
   go_enter Tryz.func129,Tryz.ntmps129
   go_wp2_with fail
   refine (ref_right_any _ _ ha).mono ?_;rintro e w' ⟨rfl,rfl⟩
   go_wp2_with fail
   refine (ref_right_any _ _ hb).mono ?_;rintro e w' ⟨rfl,rfl⟩
   go_wp2_with fail
   go_ret
   exact ⟨ret_int HR.out.symm,rfl⟩
  ·unfold maxLen at ha hb
   by_cases h4:4096<a.length
   ·have HR:=Lib.hid (show errT a b=4 by rw [errT,if_pos ⟨h1,h2⟩,if_neg (by omega)])
    go_enter Tryz.func129,Tryz.ntmps129
    go_wp2_with fail
    refine (ref_right_any _ _ ha).mono ?_;rintro e w' ⟨rfl,rfl⟩
    go_wp2_with fail
    refine (ref_right_any _ _ hb).mono ?_;rintro e w' ⟨rfl,rfl⟩
    go_wp2_with fail
    go_ret
    exact ⟨ret_int HR.out.symm,rfl⟩
   ·by_cases h5:4096<b.length
    ·have HR:=Lib.hid (show errT a b=4 by rw [errT,if_pos ⟨h1,h2⟩,if_neg (by omega)])
     go_enter Tryz.func129,Tryz.ntmps129
     go_wp2_with fail
     refine (ref_right_any _ _ ha).mono ?_;rintro e w' ⟨rfl,rfl⟩
     go_wp2_with fail
     refine (ref_right_any _ _ hb).mono ?_;rintro e w' ⟨rfl,rfl⟩
     go_wp2_with fail
     go_ret
     exact ⟨ret_int HR.out.symm,rfl⟩
    ·have HR:=Lib.hid (show errT a b=0 by rw [errT,if_pos ⟨h1,h2⟩,if_pos (by omega)])
     go_enter Tryz.func129,Tryz.ntmps129
     go_wp2_with fail
     refine (ref_right_any _ _ ha).mono ?_;rintro e w' ⟨rfl,rfl⟩
     go_wp2_with fail
     refine (ref_right_any _ _ hb).mono ?_;rintro e w' ⟨rfl,rfl⟩
     go_wp2_with fail
     go_ret
     exact ⟨ret_int HR.out.symm,rfl⟩
theorem rndigit_any (l:List UInt8) (i:Nat) (w:World) (h:l.all isDig=true) (hl:l.length≤1000000000) (hi:i≤1000000000) :
  Calls Tryz.prog 167 #[.string (B l),.int .i64 i] w fun e w'=>e=.returned (.int .i64 (dg (val l) i:Nat))∧w'=w:=by
 by_cases hlt:i<l.length
 ·have h1:=dig_of_all h (k:=l.length - 1 - i) (by omega)
  have HR:=Lib.hid (dg_at h hlt)
  have hd1:48≤((at8 l (l.length - 1 - i)).toNat:Int):=by omega
  have hd2:((at8 l (l.length - 1 - i)).toNat:Int)≤57:=by omega
  go_enter Tryz.func167,Tryz.ntmps167
  go_wp2_with fail
  go_ret
  exact ⟨ret_int (by rw [← HR.out];unfold dv;omega),rfl⟩
 ·have HR:=Lib.hid (show dg (val l) i=0 from dg_zero (Nat.lt_of_lt_of_le (val_lt l h) (Nat.pow_le_pow_right (by omega) (by omega))))
  go_enter Tryz.func167,Tryz.ntmps167
  go_wp2_with fail
  go_ret
  exact ⟨ret_int (by rw [HR.out];rfl),rfl⟩
theorem letter_law (n:Nat) (h:n<10):(([48,49,50,51,52,53,54,55,56,57]:List UInt8).take (n+1)).drop n=[dch n]:=by
 match n,h with
 |0,_=>rfl
 |1,_=>rfl
 |2,_=>rfl
 |3,_=>rfl
 |4,_=>rfl
 |5,_=>rfl
 |6,_=>rfl
 |7,_=>rfl
 |8,_=>rfl
 |9,_=>rfl
theorem letter_any (n:Nat) (w:World) (h:n<10) :
  Calls Tryz.prog 154 #[.int .i64 n] w fun e w'=>e=.returned (.string (B [dch n]))∧w'=w:=by
 have HR:=Lib.hid (letter_law n h)
 go_enter Tryz.func154,Tryz.ntmps154
 go_wp2_with fail
 go_ret
 exact ⟨ret_str (by rw [← HR.out];rfl),rfl⟩
theorem rtrim_step (t:List UInt8) (h:1<t.length) (h0:at8 t 0=48):val (t.drop 1)=val t:=by
 cases t with
 |nil=>simp at h
 |cons c s =>
  have:c=48:=by simpa [at8] using h0
  subst this;simp [val_drop_zero]
theorem rtrim_any (l:List UInt8) (w:World) (h:l.all isDig=true) (h0:0<l.length) (hl:l.length≤1000000000) :
  Calls Tryz.prog 151 #[.string (B l)] w fun e w'=>e=.returned (.string (B (dec (val l))))∧w'=w:=by
 go_enter Tryz.func151,Tryz.ntmps151
 go_wp2_with fail
 go_loop [0] (fun v=>∃ t:List UInt8,v=.string (B t)∧0<t.length∧t.length≤l.length∧t.all isDig=true∧val t=val l) (fun v=>match v with | .string s=>s.size | _=>0)
 case atStart=>exact ⟨l,rfl,h0,Nat.le_refl _,h,rfl⟩
 case round =>
  obtain ⟨t,rfl,ht0,htl,hta,htv⟩:=hrel
  have HV:=Lib.hid htv
  have HA:=Lib.hid hta
  clear htv hta h
  by_cases h1:1<t.length
  ·by_cases h2:at8 t 0=48
   ·have h2':(((at8 t 0).toNat:Int) == 48)=true:=by rw [h2];rfl
    have HS:=Lib.hid (rtrim_step t h1 h2)
    clear h2
    go_wp2_with fail
    go_round
    case rel =>
     refine ⟨t.drop 1,?_,by simp;omega,by simp;omega,?_,by rw [HS.out,HV.out]⟩
     ·simp
     ·intro x hx
      exact List.all_eq_true.1 HA.out x (List.mem_of_mem_drop hx)
    case measure=>omega
   ·have h2':(((at8 t 0).toNat:Int) == 48)=false:=by
     rw [beq_eq_false_iff_ne];intro e;apply h2;apply UInt8.toNat_inj.1;simp;omega
    have hr:right t=true:=by
     unfold right
     have hne:t≠[]:=List.length_pos_iff.1 ht0
     rw [at8_zero_head t hne,HA.out]
     have:t.isEmpty=false:=by simpa using hne
     simp [this,h2]
    have HS:=Lib.hid (dec_val hr)
    clear h2
    go_wp2_with fail
    go_ret
    exact ⟨ret_str (by rw [← HV.out,HS.out]),rfl⟩
  ·have HS:=Lib.hid (show dec (val t)=t by
    have hlen:t.length=1:=by omega
    have hd:=HA.out
    match t,hlen with
    |[c],_ =>
     simp at hd
     rw [val_one,dec_lt (dv_lt hd),dch_dv hd])
   go_wp2_with fail
   go_ret
   exact ⟨ret_str (by rw [← HV.out,HS.out]),rfl⟩
theorem dec_len_add (x y:Nat):(dec (x+y)).length≤max (dec x).length (dec y).length+1:=by
 have h1:=dec_lt_len x
 have h2:=dec_lt_len y
 have h3:10 ^ (dec x).length≤10 ^ max (dec x).length (dec y).length:=Nat.pow_le_pow_right (by omega) (by omega)
 have h4:10 ^ (dec y).length≤10 ^ max (dec x).length (dec y).length:=Nat.pow_le_pow_right (by omega) (by omega)
 refine (length_dec_le (by omega)).2 ?_
 rw [Nat.pow_succ];omega
theorem less_any (x y:Nat) (w:World) (hx:(dec x).length≤100000000) (hyx:y≤x) :
  Calls Tryz.prog 153 #[.string (B (dec x)),.string (B (dec y))] w fun e w'=>e=.returned (.string (B (dec (x - y))))∧w'=w:=by
 have hy:(dec y).length≤(dec x).length:=length_dec_mono hyx
 have hax:=dec_all x
 have hay:=dec_all y
 have hvx:=Lib.hid (val_dec x)
 have hvy:=Lib.hid (val_dec y)
 have hlx:=Lib.hid (dec_lt_len x)
 have hpos:=length_dec_pos x
 generalize dec x=a at *
 generalize dec y=b at *
 go_enter Tryz.func153,Tryz.ntmps153
 simp only [B_mk]
 go_wp2_with fail
 go_loopw [5,6,7,8] (fun o cr i _ wr=>∃ k t br:Nat,k≤a.length∧i=.int .i64 k∧o=.string (B (digs k t))∧cr=.int .i64 br∧br≤1∧t<10 ^ k∧x % 10 ^ k+10 ^ k*br=y % 10 ^ k+t∧wr=w) (fun _ _ i _ _=>a.length - (intOf i).toNat)
 case atStart=>exact ⟨0,0,0,Nat.zero_le _,rfl,rfl,rfl,by omega,by simp,by simp [Nat.mod_one],rfl⟩
 case round =>
  obtain ⟨k,t,br,hk,rfl,rfl,rfl,hbr,ht,hv,rfl⟩:=hrel
  have hol:(digs k t).length=k:=digs_length _ _
  by_cases hgo:k<a.length
  ·have HS:=Lib.hid (fun d br' h=>less_step x y k t br d br' hv h)
   have HT:=Lib.hid ht
   have hd1:=dg_lt x k
   have hd2:=dg_lt y k
   have hol2:(digs k t).length≤100000000:=by omega
   have hdl:∀ d,d<10→digs (k+1) (d*10 ^ k+t)=dch d :: digs k t:=fun d hd=>digs_front k d t hd ht
   have HDL:=Lib.hid hdl
   clear hol hv ht hdl
   by_cases hneg:dg x k<dg y k+br
   ·go_wp2_with fail
    refine (rndigit_any a k _ hax (by omega) (by omega)).mono ?_;rintro e w' ⟨rfl,rfl⟩
    rw [hvx.out]
    go_wp2_with fail
    refine (rndigit_any b k _ hay (by omega) (by omega)).mono ?_;rintro e w' ⟨rfl,rfl⟩
    rw [hvy.out]
    have hn1:(dg x k:Int) - (dg y k:Int) - (br:Int)<0:=by omega
    go_wp2_with fail
    have e1:(dg x k:Int) - (dg y k:Int) - (br:Int)+10=((dg x k+10 - dg y k - br:Nat):Int):=by omega
    rw [e1]
    refine (letter_any _ _ (by omega)).mono ?_;rintro e w' ⟨rfl,rfl⟩
    clear e1
    go_wp2_with fail
    go_roundw
    case rel=>exact ⟨k+1,(dg x k+10 - dg y k - br)*10 ^ k+t,1,by omega,by go_num,by rw [HDL.out _ (by omega)],rfl,by omega,digs_lt_step _ _ _ (by omega) HT.out,HS.out _ 1 (by omega),by trivial⟩
    case measure=>simp [intOf];omega
   ·go_wp2_with fail
    refine (rndigit_any a k _ hax (by omega) (by omega)).mono ?_;rintro e w' ⟨rfl,rfl⟩
    rw [hvx.out]
    go_wp2_with fail
    refine (rndigit_any b k _ hay (by omega) (by omega)).mono ?_;rintro e w' ⟨rfl,rfl⟩
    rw [hvy.out]
    have hn1:0≤(dg x k:Int) - (dg y k:Int) - (br:Int):=by omega
    go_wp2_with fail
    have e1:(dg x k:Int) - (dg y k:Int) - (br:Int)=((dg x k - dg y k - br:Nat):Int):=by omega
    rw [e1]
    refine (letter_any _ _ (by omega)).mono ?_;rintro e w' ⟨rfl,rfl⟩
    clear e1
    go_wp2_with fail
    go_roundw
    case rel=>exact ⟨k+1,(dg x k - dg y k - br)*10 ^ k+t,0,by omega,by go_num,by rw [HDL.out _ (by omega)],rfl,by omega,digs_lt_step _ _ _ (by omega) HT.out,HS.out _ 0 (by omega),by trivial⟩
    case measure=>simp [intOf];omega
  ·obtain rfl:k=a.length:=by omega
   have hres:t=x - y:=by
    have h1:=hlx.out
    rw [Nat.mod_eq_of_lt h1,Nat.mod_eq_of_lt (by omega)] at hv
    rcases Nat.lt_or_ge 0 br with hb | hb
    ·have:br=1:=by omega
     subst this;omega
    ·have:br=0:=by omega
     subst this;omega
   have HR:=Lib.hid hres
   have HV:=Lib.hid (val_digs _ _ ht)
   clear hv ht hres
   go_wp2_with fail
   refine (rtrim_any _ _ (digs_all _ _) (by omega) (by omega)).mono ?_;rintro e w' ⟨rfl,rfl⟩
   go_wp2_with fail
   go_ret
   exact ⟨ret_str (by rw [HV.out,HR.out]),rfl⟩
theorem dec_len_4096 {n:Nat} {a:List UInt8} (h:right a=true) (hl:a.length≤4096) (hn:n≤val a):(dec n).length≤4096:=by
 have:=length_dec_mono hn;rw [dec_val h] at this;omega
theorem dec_mul10_all (v:Nat):(dec v ++ [48]).all isDig=true:=by rw [List.all_append,dec_all];rfl
theorem val_mul10 (v:Nat):val (dec v ++ [48])=10*v:=by rw [val_snoc,val_dec];rfl
theorem val_take_succ (l:List UInt8) (i:Nat) (h:i<l.length):val (l.take (i+1))=10*val (l.take i)+dv (at8 l i):=by
 rw [List.take_succ_eq_append_getElem h,val_snoc,at8_eq l i h]
theorem dec_len_mul (x y:Nat):(dec (x*y)).length≤(dec x).length+(dec y).length:=by
 refine (length_dec_le (by have:=length_dec_pos x;omega)).2 ?_
 rw [Nat.pow_add]
 exact Nat.mul_lt_mul'' (dec_lt_len x) (dec_lt_len y)
theorem dec_len_take {l:List UInt8} (h:l.all isDig=true) (i:Nat) (hi:i≤l.length) (h0:0<l.length):(dec (val (l.take i))).length≤l.length:=by
 refine (length_dec_le h0).2 ?_
 have h1:=val_lt _ (show (l.take i).all isDig=true by have:=all_sub h 0 i;simpa using this)
 rw [List.length_take,Nat.min_eq_left hi] at h1
 exact Nat.lt_of_lt_of_le h1 (Nat.pow_le_pow_right (by omega) hi)
theorem slice_one (l:List UInt8) (k:Nat) (h:k<l.length):(l.take (k+1)).drop k=[at8 l k]:=by
 rw [List.take_succ_eq_append_getElem h,List.drop_append_of_le_length (by rw [List.length_take];omega),List.drop_of_length_le (by rw [List.length_take];omega),at8_eq l k h];rfl
theorem cmpT_dec (x y:Nat):cmpT (dec x) (dec y)=cmpI (x:Int) (y:Int):=by rw [cmpT_right (right_dec x) (right_dec y),val_dec,val_dec]
theorem cmpI_nonneg {x y:Int}:0≤cmpI x y↔y≤x:=by
 unfold cmpI;split
 ·constructor <;> intro h <;> omega
 ·split <;> constructor <;> intro h <;> omega
theorem divT_step (v y d r:Nat) (hy:0<y) (hr:r=v % y) (hd:d<10):(10*v+d) / y=10*(v / y)+(10*r+d) / y∧(10*v+d) % y=(10*r+d) % y∧10*r+d<10*y:=by
 have h:=Nat.div_add_mod v y
 rw [← hr] at h
 have e:10*v+d=y*(10*(v / y))+(10*r+d):=by
  have:y*(10*(v / y))=10*(y*(v / y)):=Nat.mul_left_comm _ _ _
  omega
 have hlt:r<y:=by rw [hr];exact Nat.mod_lt v hy
 refine ⟨?_,?_,by omega⟩
 ·rw [e,Nat.mul_add_div hy]
 ·rw [e,Nat.mul_add_mod]
set_option maxHeartbeats 2000000 in
theorem rdiv_any (a b:List UInt8) (w:World) (ha:a.length≤maxLen) (hb:b.length≤maxLen) :
  Calls Tryz.prog 130 #[.string (B a),.string (B b)] w fun e w'=>e=.returned (.tuple #[.string (B (divQ a b)),.string (B (divR a b)),.int .i64 (divE a b)])∧w'=w:=by
 by_cases he:errT a b=0
 ·obtain ⟨h1,h2,h3,h4⟩:=errT_zero.1 he
  have hz:(errT a b != 0)=false:=by simpa using he
  obtain ⟨y,rfl⟩:=(right_iff b).1 h2
  by_cases h0:y=0
  ·have hE:divE a (dec y)=10:=by rw [divE,if_pos he,val_dec,if_pos h0]
   have HR:=Lib.hid (show divQ a (dec y)=[]∧divR a (dec y)=[]∧divE a (dec y)=10 from ⟨by rw [divQ,hE];rfl,by rw [divR,hE];rfl,hE⟩)
   have ht:(dec y == [48])=true:=by rw [h0,dec_zero];rfl
   clear he h0 hE
   go_enter Tryz.func130,Tryz.ntmps130
   simp only [B_mk]
   go_wp2_with fail
   refine (rnwrong_any a (dec y) _ ha hb).mono ?_;rintro e w' ⟨rfl,rfl⟩
   go_wp2_with fail
   go_ret3
   exact ⟨by rw [HR.out.1,HR.out.2.1,HR.out.2.2];rfl,rfl⟩
  ·have hE:divE a (dec y)=0:=by rw [divE,if_pos he,val_dec,if_neg h0]
   have HR:=Lib.hid (show divQ a (dec y)=dec (val a / y)∧divR a (dec y)=dec (val a % y)∧divE a (dec y)=0 from ⟨by rw [divQ,if_pos hE,val_dec],by rw [divR,if_pos hE,val_dec],hE⟩)
   have ht:(dec y == [48])=false:=by
    rw [beq_eq_false_iff_ne];intro e
    have:=congrArg val e
    rw [val_dec] at this
    exact h0 this
   have hpos:0<y:=by omega
   have had:=right_all h1
   have ha0:0<a.length:=List.length_pos_iff.2 (right_ne h1)
   clear he h0 hE
   go_enter Tryz.func130,Tryz.ntmps130
   simp only [B_mk]
   go_wp2_with fail
   refine (rnwrong_any a (dec y) _ ha hb).mono ?_;rintro e w' ⟨rfl,rfl⟩
   go_wp2_with fail
   go_loopw [8,9,10,11] (fun q rr i _ wr=>∃ k:Nat,k≤a.length∧i=.int .i64 k∧q=.string (B (digs k (val (a.take k) / y)))∧rr=.string (B (dec (val (a.take k) % y)))∧wr=w') (fun _ _ i _ _=>a.length - (intOf i).toNat)
   case atStart=>exact ⟨0,Nat.zero_le _,rfl,by simp [digs],by simp [val,dec_zero],rfl⟩
   case round =>
    obtain ⟨k,hk,rfl,rfl,rfl,rfl⟩:=hrel
    have hql:(digs k (val (a.take k) / y)).length=k:=digs_length _ _
    by_cases hgo:k<a.length
    ·have HV:=Lib.hid (val_take_succ a k hgo)
     have hsl:=slice_one a k hgo
     have hdgl:=List.all_eq_true.1 had _ (by rw [at8_eq a k hgo];exact List.getElem_mem hgo:at8 a k ∈ a)
     have hdlt:=dv_lt hdgl
     have HST:=Lib.hid (divT_step (val (a.take k)) y (dv (at8 a k)) (val (a.take k) % y) hpos rfl hdlt)
     have hQL:(digs k (val (a.take k) / y)).length≤5000:=by omega
     clear hql
     have hrlt:=Nat.mod_lt (val (a.take k)) hpos
     generalize hQ:digs k (val (a.take k) / y)=Q at *
     have HQ:=Lib.hid hQ
     clear hQ
     generalize hr:val (a.take k) % y=r at *
     have HRR:=Lib.hid hr
     clear hr
     have hrl:=length_dec_mono (Nat.le_of_lt hrlt)
     have hal:(dec r ++ [at8 a k]).all isDig=true:=by rw [List.all_append,dec_all];simp [hdgl]
     have HVS:=Lib.hid (show val (dec r ++ [at8 a k])=10*r+dv (at8 a k) by rw [val_snoc,val_dec])
     go_wp2_with fail
     refine (rtrim_any (dec r ++ [at8 a k]) _ hal (by simp) (by simp;omega)).mono ?_;rintro e w' ⟨rfl,rfl⟩
     rw [HVS.out]
     clear hal hsl
     obtain ⟨T,hT⟩:∃ T,T=10*r+dv (at8 a k):=⟨_,rfl⟩
     have HT:=Lib.hid hT
     rw [← hT]
     have hTl:T<10*y:=by rw [hT];exact HST.out.2.2
     have hTlen:(dec T).length≤5000:=by
      have h9:=dec_len_mul 10 y
      have:(dec 10).length≤2:=(length_dec_le (by omega)).2 (by omega)
      have:=length_dec_mono (Nat.le_of_lt hTl)
      omega
     clear hT
     go_wp2_with fail
     go_loopw [9,11] (fun rr n w2=>∃ j t:Nat,n=.int .i64 j∧rr=.string (B (dec t))∧T=y*j+t∧w2=w') (fun _ n _=>20 - (intOf n).toNat)
     case atStart=>exact ⟨0,T,rfl,rfl,by omega,rfl⟩
     case round =>
      obtain ⟨j,t,rfl,rfl,htj,rfl⟩:=hrel
      have HTJ:=Lib.hid htj
      have htT:t≤T:=by omega
      have hj9:j<10:=by
       rcases Nat.lt_or_ge j 10 with h | h
       ·exact h
       ·have:=Nat.mul_le_mul_left y h;omega
      have htlen:=length_dec_mono htT
      clear htj
      by_cases hc:y≤t
      ·have hcc:0≤cmpT (dec t) (dec y):=by rw [cmpT_dec];exact cmpI_nonneg.2 (by omega)
       go_wp2_with fail
       refine (ref_compare_any (dec t) (dec y) _ (by unfold maxLen;omega) hb).mono ?_;rintro e w' ⟨rfl,rfl⟩
       go_wp2_with fail
       refine (less_any t y _ (by omega) hc).mono ?_;rintro e w' ⟨rfl,rfl⟩
       go_wp2_with fail
       go_roundw
       case rel=>exact ⟨j+1,t - y,by go_num,rfl,by rw [HTJ.out,Nat.mul_add];omega,by trivial⟩
       case measure=>simp [intOf];omega
      ·have hcc:cmpT (dec t) (dec y)<0:=by
        have:¬ 0≤cmpT (dec t) (dec y):=by rw [cmpT_dec,cmpI_nonneg];omega
        omega
       have hjq:T / y=j∧T % y=t:=by
        rw [HTJ.out]
        exact ⟨by rw [Nat.mul_add_div hpos,Nat.div_eq_of_lt (by omega)];omega,by rw [Nat.mul_add_mod,Nat.mod_eq_of_lt (by omega)]⟩
       have HJ:=Lib.hid hjq
       clear hjq
       go_wp2_with fail
       refine (ref_compare_any (dec t) (dec y) _ (by unfold maxLen;omega) hb).mono ?_;rintro e w' ⟨rfl,rfl⟩
       go_wp2_with fail
       refine (letter_any j _ hj9).mono ?_;rintro e w' ⟨rfl,rfl⟩
       go_wp2_with fail
       go_roundw
       case rel =>
        have hst:=HST.out
        rw [← HT.out,HJ.out.1,HJ.out.2] at hst
        refine ⟨k+1,by omega,by go_num,?_,?_,by trivial⟩
        ·rw [HV.out,hst.1]
         show _=Value.string (B (digs k ((10*(val (a.take k) / y)+j) / 10) ++ [dch ((10*(val (a.take k) / y)+j) % 10)]))
         rw [show (10*(val (a.take k) / y)+j) / 10=val (a.take k) / y by omega,show (10*(val (a.take k) / y)+j) % 10=j by omega,HQ.out]
        ·rw [HV.out,hst.2.1]
       case measure=>simp [intOf];omega
    ·obtain rfl:k=a.length:=by omega
     have hlt:val a / y<10 ^ a.length:=Nat.lt_of_le_of_lt (Nat.div_le_self _ _) (val_lt a had)
     have HV:=Lib.hid (val_digs _ _ hlt)
     rw [List.take_of_length_le (Nat.le_refl _)] at hql ⊢
     have hql2:(digs a.length (val a / y)).length≤5000:=by omega
     have hql3:0<(digs a.length (val a / y)).length:=by omega
     have hal:=digs_all a.length (val a / y)
     clear hql hlt hgo
     generalize digs a.length (val a / y)=Q at *
     go_wp2_with fail
     refine (rtrim_any Q _ hal hql3 (by omega)).mono ?_;rintro e w' ⟨rfl,rfl⟩
     rw [HV.out]
     go_wp2_with fail
     go_ret3
     exact ⟨by rw [HR.out.1,HR.out.2.1,HR.out.2.2];rfl,rfl⟩
 ·have hE:divE a b=errT a b:=by rw [divE,if_neg he]
  have HR:=Lib.hid (show divQ a b=[]∧divR a b=[]∧divE a b=errT a b from ⟨by rw [divQ,hE,if_neg he],by rw [divR,hE,if_neg he],hE⟩)
  have hne:(errT a b != 0)=true:=by simpa using he
  clear he hE
  go_enter Tryz.func130,Tryz.ntmps130
  simp only [B_mk]
  go_wp2_with fail
  refine (rnwrong_any a b _ ha hb).mono ?_;rintro e w' ⟨rfl,rfl⟩
  go_wp2_with fail
  go_ret3
  exact ⟨by rw [HR.out.1,HR.out.2.1,HR.out.2.2];rfl,rfl⟩
theorem divR_dec {p q:Nat} (hp:(dec p).length≤4096) (hq:(dec q).length≤4096) (h:q≠0):divR (dec p) (dec q)=dec (p % q):=by
 rw [divR,divE,if_pos (errT_dec hp hq),val_dec,if_neg h,if_pos rfl,val_dec]
theorem gcd_len {a b:List UInt8} (he:errT a b=0):(dec (Nat.gcd (val a) (val b))).length≤4096:=by
 obtain ⟨h1,h2,h3,h4⟩:=errT_zero.1 he
 rcases Nat.eq_zero_or_pos (val a) with h | h
 ·rw [h,Nat.gcd_zero_left,dec_val h2];exact h4
 ·exact dec_len_4096 h1 h3 (Nat.gcd_le_left _ h)
set_option maxHeartbeats 1000000 in
theorem rgcd_any (a b:List UInt8) (w:World) (ha:a.length≤maxLen) (hb:b.length≤maxLen) :
  Calls Tryz.prog 101 #[.string (B a),.string (B b)] w fun e w'=>e=.returned (.tuple #[.string (B (gcdS a b)),.int .i64 (gcdE a b)])∧w'=w:=by
 by_cases he:errT a b=0
 ·obtain ⟨h1,h2,h3,h4⟩:=errT_zero.1 he
  have hlen:=gcd_len he
  have HR:=Lib.hid (show gcdS a b=dec (Nat.gcd (val a) (val b))∧gcdE a b=0 from ⟨by rw [gcdS,if_pos he,resS,if_pos hlen],by rw [gcdE,if_pos he,resE,if_pos hlen]⟩)
  have hz:(errT a b != 0)=false:=by simpa using he
  obtain ⟨x,rfl⟩:=(right_iff a).1 h1
  obtain ⟨y,rfl⟩:=(right_iff b).1 h2
  rw [val_dec,val_dec] at HR
  obtain ⟨g,hg⟩:∃ g,Nat.gcd x y=g:=⟨_,rfl⟩
  have HG:=Lib.hid hg
  clear he hlen
  go_enter Tryz.func101,Tryz.ntmps101
  simp only [B_mk]
  go_wp2_with fail
  refine (rnwrong_any (dec x) (dec y) _ ha hb).mono ?_;rintro e w' ⟨rfl,rfl⟩
  go_wp2_with fail
  go_loopg [0,1] y (fun gk u v wr=>∃ p q:Nat,u=.string (B (dec p))∧v=.string (B (dec q))∧Nat.gcd p q=g∧q≤gk∧(dec p).length≤4096∧(dec q).length≤4096∧wr=w')
  case atStart=>exact ⟨x,y,rfl,rfl,hg,Nat.le_refl _,h3,h4,rfl⟩
  case round =>
   obtain ⟨p,q,rfl,rfl,hgc,hqk,hpl,hql,rfl⟩:=hrel
   clear hg
   have HGC:=Lib.hid hgc
   clear hgc
   by_cases hq0:q=0
   ·have ht:(!(dec q == [48]))=false:=by rw [hq0,dec_zero];rfl
    have hp:p=g:=by have:=HGC.out;rw [hq0,Nat.gcd_zero_right] at this;exact this
    have HPG:=Lib.hid hp
    clear hp hq0
    go_wp2_with fail
    go_ret2
    exact ⟨by rw [HR.out.1,HR.out.2,HG.out,HPG.out];rfl,rfl⟩
   ·have ht:(!(dec q == [48]))=true:=by
     rw [Bool.not_eq_true',beq_eq_false_iff_ne];intro e
     have:=congrArg val e
     rw [val_dec] at this
     exact hq0 this
    have hpos:0<q:=by omega
    have hml:=Nat.mod_lt p hpos
    have hq2:=length_dec_mono (Nat.le_of_lt hml)
    have HS:=Lib.hid (gcd_step hpos HGC.out)
    have HD:=Lib.hid (divR_dec hpl hql hq0)
    clear hq0
    go_wp2_with fail
    refine (rdiv_any (dec p) (dec q) _ (by unfold maxLen;omega) (by unfold maxLen;omega)).mono ?_;rintro e w' ⟨rfl,rfl⟩
    rw [HD.out]
    go_wp2_with fail
    go_roundg (p % q)
    case measure=>omega
    case rel=>exact ⟨q,p % q,rfl,rfl,HS.out,Nat.le_refl _,hql,by omega,rfl⟩
 ·have HR:=Lib.hid (show gcdS a b=[]∧gcdE a b=errT a b from ⟨if_neg he,if_neg he⟩)
  have hne:(errT a b != 0)=true:=by simpa using he
  clear he
  go_enter Tryz.func101,Tryz.ntmps101
  simp only [B_mk]
  go_wp2_with fail
  refine (rnwrong_any a b _ ha hb).mono ?_;rintro e w' ⟨rfl,rfl⟩
  go_wp2_with fail
  go_ret2
  exact ⟨by rw [HR.out.1,HR.out.2];rfl,rfl⟩
end Go.Proofs.YtljekdpgjaahjaaGreatDoor

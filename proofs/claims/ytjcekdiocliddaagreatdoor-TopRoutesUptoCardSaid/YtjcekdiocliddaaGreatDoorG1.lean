/- Plain arithmetic of decimal texts and of limbs in base 10^9. No program in sight. -/
import Derived.Test.YtjcekdiocliddaaGreatDoorProg
import Derived.WalkKit
import Derived.WalkSpells
import Derived.WalkLawsBesides
import Derived.Lib.Hide
import Derived.Laws.OwnMore
import Derived.Deep.RegionLaw
import Derived.Laws.MakeOwn
import Derived.Laws.BytesArg
import Derived.Lib.AppendStr
namespace Go.Proofs.YtjcekdiocliddaaGreatDoor
open Lib (hid)
namespace Num
abbrev Sr:=List UInt8
def iD (c:UInt8):Bool:=decide (48<=c.toNat) && decide (c.toNat<=57)
def right (l:Sr):Bool:=!l.isEmpty && (!(l.head? == some 48) || l == [48]) && l.all iD
def dv (c:UInt8):Nat:=c.toNat - 48
def val (l:Sr):Nat:=l.foldl (fun a c=>10*a+dv c) 0
def dch (d:Nat):UInt8:=UInt8.ofNat (48+d)
def dec (n:Nat):Sr:=if _h:n<10 then [dch n] else dec (n / 10) ++ [dch (n % 10)]
termination_by n
decreasing_by omega
def digs:Nat->Nat->Sr
 |0,_=>[]
 |k+1,m=>digs k (m / 10) ++ [dch (m % 10)]
theorem dt {d:Nat} (h:d<10):(dch d).toNat=48+d:=by
 unfold dch;rw [UInt8.toNat_ofNat'];omega
theorem dv_dch {d:Nat} (h:d<10):dv (dch d)=d:=by unfold dv;rw [dt h];omega
theorem isDig_dch {d:Nat} (h:d<10):iD (dch d)=true:=by unfold iD;rw [dt h];simp;omega
theorem dch_dv {c:UInt8} (h:iD c=true):dch (dv c)=c:=by
 unfold iD at h;simp at h;apply UInt8.toNat_inj.1
 rw [dt (by unfold dv;omega)];unfold dv;omega
theorem dv_lt {c:UInt8} (h:iD c=true):dv c<10:=by
 unfold iD at h;simp at h;unfold dv;omega
theorem dch_eq_48 {d:Nat} (h:d<10):dch d=48↔d=0:=by
 constructor
 ·intro e;have:=dt h;rw [e] at this;simp at this;omega
 ·rintro rfl;rfl
theorem foldl_val (l:Sr):∀ a,l.foldl (fun a c=>10*a+dv c) a=a*10 ^ l.length+val l:=by
 induction l with
 |nil=>intro a;simp [val]
 |cons c t ih =>
  intro a;have e:val (c :: t)=(10*0+dv c)*10 ^ t.length+val t:=by rw [<- ih];rfl
  rw [List.foldl_cons,ih,e,List.length_cons,Nat.pow_succ];simp only [Nat.add_mul,Nat.mul_zero,Nat.zero_add];rw [show 10*a*10 ^ t.length=a*(10 ^ t.length*10) from by rw [Nat.mul_comm 10 a,Nat.mul_assoc,Nat.mul_comm 10]];omega
theorem Va (a b:Sr):val (a ++ b)=val a*10 ^ b.length+val b:=by
 unfold val;rw [List.foldl_append,foldl_val];rfl
theorem Vc (c:UInt8) (t:Sr):val (c :: t)=dv c*10 ^ t.length+val t:=by
 rw [show c :: t=[c] ++ t from rfl,Va];simp [val]
theorem Vs (a:Sr) (c:UInt8):val (a ++ [c])=10*val a+dv c:=by
 rw [Va];simp [val];omega
theorem val_one (c:UInt8):val [c]=dv c:=by simp [val]
theorem val_lt (l:Sr) (h:l.all iD=true):val l<10 ^ l.length:=by
 induction l with
 |nil=>simp [val]
 |cons c t ih =>
  simp at h
  rw [Vc,List.length_cons,Nat.pow_succ];have h1:=dv_lt h.1;have h2:=ih (by simpa using h.2);have:(dv c+1)*10 ^ t.length<=10*10 ^ t.length:=Nat.mul_le_mul_right _ (by omega);rw [Nat.add_mul] at this;omega
theorem dec_lt {n:Nat} (h:n<10):dec n=[dch n]:=by rw [dec];simp [h]
theorem dg {n:Nat} (h:¬ n<10):dec n=dec (n / 10) ++ [dch (n % 10)]:=by rw [dec];simp [h]
theorem dz:dec 0=[48]:=dec_lt (by omega)
theorem Dn (n:Nat):dec n≠[]:=by
 by_cases h:n<10
 ·rw [dec_lt h];simp
 ·rw [dg h];simp
theorem da (n:Nat):(dec n).all iD=true:=by
 induction n using Nat.strongRecOn with
 |_ n ih =>
  by_cases h:n<10
  ·rw [dec_lt h];simp [isDig_dch h]
  ·rw [dg h,List.all_append,ih _ (by omega)];simp [isDig_dch (show n % 10<10 by omega)]
theorem vD (n:Nat):val (dec n)=n:=by
 induction n using Nat.strongRecOn with
 |_ n ih =>
  by_cases h:n<10
  ·rw [dec_lt h,val_one,dv_dch h]
  ·rw [dg h,Vs,ih _ (by omega),dv_dch (by omega)];omega
theorem dec_head (n:Nat) (h:0<n):(dec n).head? ≠ some 48:=by
 induction n using Nat.strongRecOn with
 |_ n ih =>
  by_cases h1:n<10
  ·rw [dec_lt h1];simp [dch_eq_48 h1];omega
  ·rw [dg h1]
   have:=ih (n / 10) (by omega) (by omega);rw [List.head?_append]
   cases hd:(dec (n / 10)).head? with
   |none=>exact absurd (List.head?_eq_none_iff.1 hd) (Dn _)
   |some c=>simpa [hd] using this
theorem Di {m n:Nat} (h:dec m=dec n):m=n:=by rw [<- vD m,h,vD]
theorem rd (n:Nat):right (dec n)=true:=by
 unfold right;rw [da];have h1:(dec n).isEmpty=false:=by simpa using Dn n
 rw [h1];by_cases h:n=0
 ·subst h;rw [dz];rfl
 ·have:=dec_head n (by omega)
  simp [this]
theorem Bh {l:Sr} (h:right l=true):l.all iD=true:=by unfold right at h;simp only [Bool.and_eq_true] at h;exact h.2
theorem right_ne {l:Sr} (h:right l=true):l≠[]:=by unfold right at h;intro e;subst e;simp at h
theorem right_head {l:Sr} (h:right l=true):l.head? = some 48->l=[48]:=by
 unfold right at h;intro e;simp [e] at h;exact h.1.2
theorem vp {c:UInt8} {t:Sr} (hd:iD c=true) (h:c≠48):10 ^ t.length<=val (c :: t):=by
 rw [Vc]
 have:0<dv c:=by
  unfold iD at hd;simp at hd;unfold dv;have:c.toNat≠48:=fun e=>h (UInt8.toNat_inj.1 (by simpa using e));omega
 have:=Nat.mul_le_mul_right (10 ^ t.length) (show 1<=dv c by omega);omega
theorem dec_val_snoc (a:Sr) (c:UInt8) (hv:0<val a) (hc:iD c=true) (ih:dec (val a)=a):dec (val (a ++ [c]))=a ++ [c]:=by
 have h1:=dv_lt hc;rw [Vs,dg (by omega),show (10*val a+dv c) / 10=val a by omega,show (10*val a+dv c) % 10=dv c by omega,ih,dch_dv hc]
theorem dec_val_aux:∀ (n:Nat) (l:Sr),l.length=n->l≠[]->l.all iD=true->l.head? ≠ some 48->dec (val l)=l:=by
 intro n
 induction n with
 |zero=>intro l h h1;exact absurd (List.eq_nil_of_length_eq_zero h) h1
 |succ n ih =>
  intro l hl hne hall hh;rcases List.eq_nil_or_concat l with rfl | ⟨a,c,rfl⟩
  ·exact absurd rfl hne
  ·rw [List.concat_eq_append] at *
   simp only [List.all_append,Bool.and_eq_true,List.all_cons,List.all_nil,Bool.and_true] at hall;by_cases ha:a=[]
   ·subst ha;simp only [List.nil_append];rw [val_one,dec_lt (dv_lt hall.2),dch_dv hall.2]
   ·have hha:a.head? ≠ some 48:=by
     cases a with
     |nil=>exact absurd rfl ha
     |cons x y=>simpa using hh
    have ih':=ih a (by simpa using hl) ha hall.1 hha;refine dec_val_snoc a c ?_ hall.2 ih'
    cases a with
    |nil=>exact absurd rfl ha
    |cons x y =>
     have:=vp (c:=x) (t:=y) (by have:=hall.1;simp at this;exact this.1) (by simpa using hha);have:=Nat.pow_pos (n:=y.length) (show 0<10 by omega);omega
theorem Dv {l:Sr} (h:right l=true):dec (val l)=l:=by
 by_cases h0:l.head? = some 48
 ·rw [right_head h h0];exact dz
 ·exact dec_val_aux _ l rfl (right_ne h) (Bh h) h0
theorem lD {n k:Nat} (hk:0<k):(dec n).length<=k↔n<10 ^ k:=by
 induction k generalizing n with
 |zero=>omega
 |succ k ih =>
  by_cases h:n<10
  ·rw [dec_lt h];simp
   have:10 ^ 1<=10 ^ (k+1):=Nat.pow_le_pow_right (by omega) (by omega);omega
  ·rw [dg h,List.length_append,List.length_cons,List.length_nil]
   by_cases hk0:k=0
   ·subst hk0
    have h1:0<(dec (n / 10)).length:=List.length_pos_iff.2 (Dn _);omega
   ·have:=@ih (n / 10) (by omega)
    rw [Nat.pow_succ];constructor
    ·intro h2;have:=this.1 (by omega);omega
    ·intro h2;have:=this.2 (by omega);omega
theorem Ld (n:Nat):0<(dec n).length:=List.length_pos_iff.2 (Dn _)
theorem ld {m n:Nat} (h:m<=n):(dec m).length<=(dec n).length :=
 (lD (Ld n)).2 (Nat.lt_of_le_of_lt h ((lD (Ld n)).1 (Nat.le_refl _)))
theorem val_lt_len {l:Sr} (h:right l=true):val l<10 ^ l.length:=val_lt l (Bh h)
theorem dec_mul_add (k n m:Nat) (hn:0<n) (hm:m<10 ^ k):dec (n*10 ^ k+m)=dec n ++ digs k m:=by
 induction k generalizing m with
 |zero=>simp [digs];rw [Nat.pow_zero] at hm;congr 1;omega
 |succ k ih =>
  have h1:m / 10<10 ^ k:=by rw [Nat.pow_succ] at hm;omega
  have h2:n*10 ^ (k+1)=10*(n*10 ^ k):=by rw [Nat.pow_succ,<- Nat.mul_assoc,Nat.mul_comm]
  have h3:1<=n*10 ^ k:=Nat.mul_pos hn (Nat.pow_pos (by omega));rw [dg (by omega),h2,show (10*(n*10 ^ k)+m) / 10=n*10 ^ k+m / 10 by omega,show (10*(n*10 ^ k)+m) % 10=m % 10 by omega,ih _ h1,digs,List.append_assoc]
theorem digs_zero (k:Nat):digs k 0=List.replicate k 48:=by
 induction k with
 |zero=>rfl
 |succ k ih=>rw [digs,Nat.zero_div,ih,List.replicate_succ',show dch (0 % 10)=48 from rfl]
theorem digs_pad (k m:Nat) (hk:0<k) (hm:m<10 ^ k):digs k m=List.replicate (k - (dec m).length) 48 ++ dec m:=by
 induction k generalizing m with
 |zero=>omega
 |succ k ih =>
  by_cases h:m<10
  ·rw [digs,show m / 10=0 by omega,digs_zero,dec_lt h,show m % 10=m by omega];simp
  ·rw [digs,dg h]
   by_cases hk0:k=0
   ·subst hk0;simp at hm;omega
   ·rw [ih (m / 10) (by omega) (by rw [Nat.pow_succ] at hm;omega)]
    simp [List.append_assoc]
def lv:List Nat->Nat
 |[]=>0
 |x :: t=>x+1000000000*lv t
def nl (n:Nat):List Nat:=if _h:n=0 then [] else n % 1000000000 :: nl (n / 1000000000)
termination_by n
decreasing_by omega
def lS (xs:List Nat):Prop:=∀ x ∈ xs,x<1000000000
theorem nZ:nl 0=[]:=by rw [nl];simp
theorem nl_pos {n:Nat} (h:n≠0):nl n=n % 1000000000 :: nl (n / 1000000000):=by rw [nl];simp [h]
theorem lN (n:Nat):lv (nl n)=n:=by
 induction n using Nat.strongRecOn with
 |_ n ih =>
  by_cases h:n=0
  ·subst h;rw [nZ];rfl
  ·rw [nl_pos h,lv,ih _ (by omega)];omega
theorem ln (n:Nat):lS (nl n):=by
 induction n using Nat.strongRecOn with
 |_ n ih =>
  by_cases h:n=0
  ·subst h;rw [nZ];intro x hx;cases hx
  ·rw [nl_pos h];intro x hx
   rcases List.mem_cons.1 hx with rfl | hx
   ·omega
   ·exact ih _ (by omega) x hx
theorem Aj {n:Nat}:nl n=[]↔n=0:=by
 constructor
 ·intro h;rw [<- lN n,h];rfl
 ·rintro rfl;exact nZ
theorem nl_cons (x n:Nat) (hx:x<1000000000) (h:x≠0∨n≠0):nl (x+1000000000*n)=x :: nl n:=by
 rw [nl_pos (by omega),show (x+1000000000*n) % 1000000000=x by omega,show (x+1000000000*n) / 1000000000=n by omega]
theorem lA (a b:List Nat):lv (a ++ b)=lv a+1000000000 ^ a.length*lv b:=by
 induction a with
 |nil=>simp [lv]
 |cons x t ih =>
  rw [List.cons_append,lv,ih,lv,List.length_cons,Nat.pow_succ,Nat.mul_add,<- Nat.mul_assoc,Nat.mul_comm (1000000000 ^ t.length)];omega
theorem lv_lt (xs:List Nat) (h:lS xs):lv xs<1000000000 ^ xs.length:=by
 induction xs with
 |nil=>simp [lv]
 |cons x t ih =>
  have h1:=h x (by simp);have h2:=ih (fun y hy=>h y (by simp [hy]));rw [lv,List.length_cons,Nat.pow_succ];omega
theorem nl_lv (xs:List Nat) (h:lS xs) (hl:xs.getLast? ≠ some 0):nl (lv xs)=xs:=by
 induction xs with
 |nil=>rw [lv,nZ]
 |cons x t ih =>
  have h1:=h x (by simp);have h2:lS t:=fun y hy=>h y (by simp [hy])
  have h3:t.getLast? ≠ some 0:=by
   cases t with
   |nil=>simp
   |cons y u=>simpa [List.getLast?_cons_cons] using hl
  have ih':=ih h2 h3
  have hx:x≠0∨lv t≠0:=by
   cases t with
   |nil=>left;simpa using hl
   |cons y u =>
    right;intro e
    rw [e,nZ] at ih';cases ih'
  rw [lv,nl_cons x _ h1 hx,ih']
theorem lv_snoc_zero (xs:List Nat):lv (xs ++ [0])=lv xs:=by rw [lA];simp [lv]
theorem Ll:lS []:=fun x hx=>by cases hx
theorem Ce {a b:List Nat}:lS (a ++ b)↔lS a/\lS b:=by
 unfold lS;constructor
 ·intro h;exact ⟨fun x hx=>h x (by simp [hx]),fun x hx=>h x (by simp [hx])⟩
 ·rintro ⟨h1,h2⟩ x hx
  rcases List.mem_append.1 hx with h | h
  ·exact h1 x h
  ·exact h2 x h
theorem nE {n k:Nat}:(nl n).length<=k↔n<1000000000 ^ k:=by
 induction k generalizing n with
 |zero=>simp [Aj]
 |succ k ih =>
  by_cases h:n=0
  ·subst h;rw [nZ];simp;exact Nat.pow_pos (by omega)
  ·rw [nl_pos h,List.length_cons,Nat.pow_succ]
   have:=@ih (n / 1000000000);constructor
   ·intro h1;have:=this.1 (by omega);omega
   ·intro h1;have:=this.2 (by omega);omega
theorem nm {m n:Nat} (h:m<=n):(nl m).length<=(nl n).length :=
 nE.2 (Nat.lt_of_le_of_lt h (nE.1 (Nat.le_refl _)))
theorem dec_nl_cons (x n:Nat) (hx:x<1000000000) (hn:n≠0):dec (x+1000000000*n)=dec n ++ digs 9 x:=by
 rw [<- dec_mul_add 9 n x (by omega) (by omega)];congr 1;omega
end Num
end Go.Proofs.YtjcekdiocliddaaGreatDoor
namespace Go.Proofs.YtjcekdiocliddaaGreatDoor
open Lib (hid)
namespace Num
def dI (z:Int):Sr:=if z<0 then 45 :: dec z.natAbs else dec z.natAbs
def Ac (s:Sr):Bool:=s.head? == some 45
def mg (s:Sr):Sr:=if Ac s=true then s.tail else s
def RI (s:Sr):Bool:=right (mg s) && !(Ac s && mg s == [48])
def VI (s:Sr):Int:=if Ac s=true then -(val (mg s):Int) else (val (mg s):Int)
theorem dec_head_ne (n:Nat):(dec n).head? ≠ some 45:=by
 intro h;have:=da n
 cases hd:dec n with
 |nil=>exact Dn n hd
 |cons c t =>
  rw [hd] at h this;simp at h this
  rw [h] at this;exact absurd this.1 (by decide)
theorem neg_dec (n:Nat):Ac (dec n)=false:=by unfold Ac;simpa using dec_head_ne n
theorem mag_dec (n:Nat):mg (dec n)=dec n:=by unfold mg;rw [neg_dec];rfl
theorem neg_minus (s:Sr):Ac (45 :: s)=true:=rfl
theorem neg_decI (z:Int):Ac (dI z)=decide (z<0):=by
 unfold dI;by_cases h:z<0
 ·rw [if_pos h];simp [h,neg_minus]
 ·rw [if_neg h];simp [h,neg_dec]
theorem mD (z:Int):mg (dI z)=dec z.natAbs:=by
 unfold dI;by_cases h:z<0
 ·rw [if_pos h];rfl
 ·rw [if_neg h];exact mag_dec _
theorem vI (z:Int):VI (dI z)=z:=by
 unfold VI;rw [neg_decI,mD,vD];by_cases h:z<0
 ·simp [h];omega
 ·simp [h];omega
theorem Cv (z:Int):RI (dI z)=true:=by
 unfold RI;rw [mD,neg_decI,rd];by_cases h:z<0
 ·have:dec z.natAbs≠[48]:=by
   intro e;have:=congrArg val e;rw [vD] at this;have h2:val [48]=0:=rfl;omega
  simp [this]
 ·simp [h]
theorem decI_valI {s:Sr} (h:RI s=true):dI (VI s)=s:=by
 unfold RI at h;simp only [Bool.and_eq_true,Bool.not_eq_true',Bool.and_eq_false_iff] at h;obtain ⟨h1,h2⟩:=h;by_cases hn:Ac s=true
 ·have hm:mg s=s.tail:=by unfold mg;rw [if_pos hn]
  have hne:mg s≠[48]:=by
   rcases h2 with h2 | h2
   ·rw [hn] at h2;cases h2
   ·intro e;rw [e] at h2;exact absurd h2 (by decide)
  have hpos:val (mg s)≠0:=by
   intro e;apply hne
   rw [<- Dv h1,e,dz]
  unfold VI dI;rw [if_pos hn,if_pos (by omega)];have:(-(val (mg s):Int)).natAbs=val (mg s):=by omega
  rw [this,Dv h1,hm]
  cases s with
  |nil=>simp [Ac] at hn
  |cons c t=>simp [Ac] at hn;subst hn;rfl
 ·have hm:mg s=s:=by unfold mg;rw [if_neg hn]
  unfold VI dI;rw [if_neg hn,if_neg (by omega),Int.natAbs_natCast,Dv h1,hm]
theorem decI_inj {a b:Int} (h:dI a=dI b):a=b:=by rw [<- vI a,h,vI]
theorem decI_zero:dI 0=[48]:=by unfold dI;exact dz
theorem DI (n:Nat):dI (n:Int)=dec n:=by unfold dI;rw [if_neg (by omega)];rfl
theorem decI_neg {n:Nat} (h:0<n):dI (-(n:Int))=45 :: dec n:=by unfold dI;rw [if_pos (by omega)];congr 1;congr 1;omega
theorem Ml (s:Sr):(mg s).length<=s.length:=by unfold mg;split <;> simp
theorem MI (z:Int):(dI z).length<=(dec z.natAbs).length+1:=by unfold dI;split <;> simp
end Num
end Go.Proofs.YtjcekdiocliddaaGreatDoor
namespace Go.Proofs.YtjcekdiocliddaaGreatDoor
open Lib (hid)
namespace Num
def fits (z:Int):Prop:=-9223372036854775808<=z/\z<=9223372036854775807
instance (z:Int):Decidable (fits z):=by unfold fits;infer_instance
def numE (s:Sr):Int:=if RI s=true then (if fits (VI s) then 0 else 4) else 3
def numV (s:Sr):Int:=if numE s=0 then VI s else 0
theorem tmod_abs (x:Int):(Int.tmod x 10).natAbs=x.natAbs % 10:=by rw [Int.natAbs_tmod];rfl
theorem tdiv_abs (x:Int):(Int.tdiv x 10).natAbs=x.natAbs / 10:=by rw [Int.natAbs_tdiv];rfl
theorem dec_len20 {z:Int} (h:fits z):(dec z.natAbs).length<=20:=by
 refine (lD (by omega)).2 ?_;have:(10:Nat) ^ 20=100000000000000000000:=by decide
 unfold fits at h;omega
end Num
end Go.Proofs.YtjcekdiocliddaaGreatDoor
namespace Go.Proofs.YtjcekdiocliddaaGreatDoor
open Lib (hid)
namespace Num
def eI (a b:Sr):Int:=if RI a=true/\RI b=true then (if (mg a).length<=4096/\(mg b).length<=4096 then 0 else 4) else 3
theorem EI {a b:Sr}:eI a b=0↔RI a=true/\RI b=true/\(mg a).length<=4096/\(mg b).length<=4096:=by
 unfold eI;by_cases h:RI a=true/\RI b=true
 ·rw [if_pos h]
  by_cases h2:(mg a).length<=4096/\(mg b).length<=4096
  ·rw [if_pos h2];simp [h,h2]
  ·rw [if_neg h2];simp [h];omega
 ·rw [if_neg h];simp;intro h1 h2;exact absurd ⟨h1,h2⟩ h
def RS (z:Int):Sr:=if (dec z.natAbs).length<=4096 then dI z else []
def rE (z:Int):Int:=if (dec z.natAbs).length<=4096 then 0 else 4
def addIS (a b:Sr):Sr:=if eI a b=0 then RS (VI a+VI b) else []
def addIE (a b:Sr):Int:=if eI a b=0 then rE (VI a+VI b) else eI a b
def mulIS (a b:Sr):Sr:=if eI a b=0 then RS (VI a*VI b) else []
def mulIE (a b:Sr):Int:=if eI a b=0 then rE (VI a*VI b) else eI a b
def qI (x y:Int):Int:=if y<0 then (-x) / (-y) else x / y
def rI (x y:Int):Int:=x - y*qI x y
def DE (a b:Sr):Int:=if eI a b=0 then (if VI b=0 then 10 else 0) else eI a b
def divIQ (a b:Sr):Sr:=if DE a b=0 then dI (qI (VI a) (VI b)) else []
def divIR (a b:Sr):Sr:=if DE a b=0 then dI (rI (VI a) (VI b)) else []
def OI (x y:Int):Int:=if x<y then -1 else if y<x then 1 else 0
def sg (m:Bool) (n:Nat):Int:=if m=true then -(n:Int) else (n:Int)
theorem sf (n:Nat):sg false n=(n:Int):=rfl
theorem se (n:Nat):sg true n = -(n:Int):=rfl
theorem Cl (m:Bool) (n:Nat):(sg m n).natAbs=n:=by cases m <;> simp [sg]
theorem sg_zero (m:Bool):sg m 0=0:=by cases m <;> rfl
theorem vg (s:Sr):VI s=sg (Ac s) (val (mg s)):=rfl
theorem decI_sg_pos {n:Nat} (h:n≠0):dI (sg true n)=45 :: dec n:=by
 rw [se,decI_neg (by omega)]
theorem decI_sg_false (n:Nat):dI (sg false n)=dec n:=DI n
theorem right_mag {s:Sr} (h:RI s=true):right (mg s)=true:=by unfold RI at h;simp at h;exact h.1
theorem dm {s:Sr} (h:RI s=true):mg s=dec (val (mg s)):=(Dv (right_mag h)).symm
theorem abs_valI (s:Sr):(VI s).natAbs=val (mg s):=by rw [vg,Cl]
theorem sum_same (m:Bool) (x y:Nat):sg m x+sg m y=sg m (x+y):=by cases m <;> simp [sg] <;> omega
theorem sum_less {m n:Bool} {x y:Nat} (h:m≠n) (hl:x<y):sg m x+sg n y=sg n (y - x):=by
 cases m <;> cases n <;> simp [sg] at * <;> omega
theorem sum_more {m n:Bool} {x y:Nat} (h:m≠n) (hl:y<=x):sg m x+sg n y=sg m (x - y):=by
 cases m <;> cases n <;> simp [sg] at * <;> omega
theorem mul_sg (m n:Bool) (x y:Nat):sg m x*sg n y=sg (m != n) (x*y):=by
 cases m <;> cases n <;> simp [sg,Int.mul_neg,Int.neg_mul]
theorem div_unique {x b q r:Int} (h:x=b*q+r) (h0:0<=r) (h1:r<b):x / b=q:=by
 have:=(Int.ediv_emod_unique (a:=x) (b:=b) (r:=r) (q:=q) (by omega)).2 ⟨by rw [h];omega,h0,h1⟩;exact this.1
theorem div_same (m:Bool) {x y:Nat} (hy:0<y):qI (sg m x) (sg m y)=((x / y:Nat):Int)/\rI (sg m x) (sg m y)=sg m (x % y):=by
 have h1:=Nat.div_add_mod x y;have h2:=Nat.mod_lt x hy
 have hq:qI (sg m x) (sg m y)=((x / y:Nat):Int):=by
  unfold qI;cases m
  ·rw [sf,sf,if_neg (by omega)];simp
  ·rw [se,se,if_pos (by omega)];simp
 refine ⟨hq,?_⟩;unfold rI;rw [hq];have h3:(y:Int)*((x / y:Nat):Int)+((x % y:Nat):Int)=(x:Int):=by rw [<- Int.natCast_mul];omega
 cases m
 ·rw [sf,sf,sf];omega
 ·rw [se,se,se,Int.neg_mul];omega
theorem div_exact {m n:Bool} {x y:Nat} (hmn:m≠n) (hy:0<y) (hr:x % y=0):qI (sg m x) (sg n y)=sg true (x / y)/\rI (sg m x) (sg n y)=0:=by
 have h1:=Nat.div_add_mod x y;have h3:(y:Int)*((x / y:Nat):Int)=(x:Int):=by rw [<- Int.natCast_mul];omega
 have hd:(-(x:Int)) / (y:Int) = -((x / y:Nat):Int):=div_unique (r:=0) (by rw [Int.mul_neg];omega) (by omega) (by omega)
 have hq:qI (sg m x) (sg n y)=sg true (x / y):=by
  unfold qI;rw [se];cases m <;> cases n
  ·exact absurd rfl hmn
  ·rw [sf,se,if_pos (by omega),Int.neg_neg];exact hd
  ·rw [sf,se,if_neg (by omega)];exact hd
  ·exact absurd rfl hmn
 refine ⟨hq,?_⟩;unfold rI;rw [hq,se];cases m <;> cases n
 ·exact absurd rfl hmn
 ·rw [sf,se,Int.neg_mul_neg];omega
 ·rw [sf,se,Int.mul_neg];omega
 ·exact absurd rfl hmn
theorem div_other {m n:Bool} {x y:Nat} (hmn:m≠n) (hy:0<y) (hr:x % y≠0):qI (sg m x) (sg n y)=sg true (x / y+1)/\rI (sg m x) (sg n y)=sg n (y - x % y):=by
 have h1:=Nat.div_add_mod x y;have h2:=Nat.mod_lt x hy;have h3:(y:Int)*((x / y:Nat):Int)+((x % y:Nat):Int)=(x:Int):=by rw [<- Int.natCast_mul];omega
 have h4:(y:Int)*((x / y+1:Nat):Int)=(y:Int)*((x / y:Nat):Int)+y:=by rw [Int.natCast_add,Int.mul_add];simp
 have hd:(-(x:Int)) / (y:Int) = -((x / y+1:Nat):Int):=div_unique (r:=((y - x % y:Nat):Int)) (by rw [Int.mul_neg];omega) (by omega) (by omega)
 have hq:qI (sg m x) (sg n y)=sg true (x / y+1):=by
  unfold qI;rw [se];cases m <;> cases n
  ·exact absurd rfl hmn
  ·rw [sf,se,if_pos (by omega),Int.neg_neg];exact hd
  ·rw [sf,se,if_neg (by omega)];exact hd
  ·exact absurd rfl hmn
 refine ⟨hq,?_⟩;unfold rI;rw [hq,se];cases m <;> cases n
 ·exact absurd rfl hmn
 ·rw [sf,se,Int.neg_mul_neg,se];omega
 ·rw [sf,se,Int.mul_neg,sf];omega
 ·exact absurd rfl hmn
end Num
end Go.Proofs.YtjcekdiocliddaaGreatDoor
namespace Go.Proofs.YtjcekdiocliddaaGreatDoor
open Lib (hid)
set_option linter.unusedVariables false
open Num
def dl (z:Int):Nat:=(dec z.natAbs).length
theorem dl_mono {x y:Int} (h:x.natAbs<=y.natAbs):dl x<=dl y:=ld h
theorem Dl (z:Int):(dI z).length<=dl z+1:=MI z
theorem errI_dec {x y:Int} (hx:dl x<=4096) (hy:dl y<=4096):eI (dI x) (dI y)=0 :=
 EI.2 ⟨Cv x,Cv y,by rw [mD];exact hx,by rw [mD];exact hy⟩
theorem resIS_dec {z:Int} (h:dl z<=4096):RS z=dI z/\rE z=0:=⟨if_pos h,if_pos h⟩
end Go.Proofs.YtjcekdiocliddaaGreatDoor
namespace Go.Proofs.YtjcekdiocliddaaGreatDoor
open Lib (hid)
open Go.RowKit
def B (l:List UInt8):ByteArray:=⟨l.toArray⟩
def at8 (l:List UInt8) (i:Nat):UInt8:=l.getD i 0
theorem BS (l:List UInt8):(B l).size=l.length:=by simp [B,ByteArray.size]
theorem Bg (l:List UInt8) (i:Nat) (h:i<(B l).size):(B l)[i]'h=at8 l i:=by
 rw [BS] at h;simp [B,ByteArray.getElem_eq_getElem_data,at8,h]
theorem Bt (l:List UInt8):(B l).toList=l:=by simp [B]
theorem Bm (l:List UInt8):ByteArray.mk (List.toArray l)=B l:=rfl
theorem Be (l:List UInt8) (i j:Nat):(B l).extract i j=B ((l.take j).drop i):=by
 show (ByteArray.mk l.toArray).extract i j=_
 rw [ByteArray.extract_mk,List.drop_take];rfl
theorem Ba (a b:List UInt8):B a ++ B b=B (a ++ b):=ByteArray.mk_append_mk a b
theorem B_of (s:ByteArray):s=B s.data.toList:=by simp [B]
attribute [local go_sem] BS Bg Bt Bm Be
theorem at8_eq (l:List UInt8) (i:Nat) (h:i<l.length):at8 l i=l[i]:=by simp [at8,h]
theorem at8_zero_head (l:List UInt8) (h:l≠[]):l.head? = some (at8 l 0):=by cases l;exact absurd rfl h;simp [at8]
theorem below_drewN {B:Nat} {a w:World} (h:Below B a w) (n:Nat):Below B a (w.drewN n):=⟨h.os,h.tape,h.output,h.size,h.block⟩
theorem ri {a b:Int} (h:a=b):Ending.returned (.int .i64 a)=.returned (.int .i64 b):=by rw [h]
theorem Aq {a b:List UInt8} (h:a=b):Ending.returned (.string (B a))=.returned (.string (B b)):=by rw [h]
theorem Rs {A:Option Addr} {n m c:Nat} (h:n=m):Ending.returned (.slice A n c)=.returned (.slice A m c):=by rw [h]
theorem rb {a b:Bool} (h:a=b):Ending.returned (.bool a)=.returned (.bool b):=by rw [h]
def imax (x y:Int):Int:=if y > x then y else x
theorem rm {P:Program} (w:World) (ts:Array TypeId) (t:TypeId) (k k':IntKind) (x y:Int):(Builtin.max_ ts t #[.int k x,.int k' y]).run P w=.ok (.int k (imax x y)) w:=by
 rw [run_max_int2];rfl
theorem imax_nat (a b:Nat):imax (a:Int) (b:Int)=((max a b:Nat):Int):=by unfold imax;split <;> omega
theorem imax_pos (x:Int):imax 0 x=(x.toNat:Int):=by unfold imax;split <;> omega
open Num
theorem aC {l:List UInt8} {p:UInt8->Bool} {k:Nat} (h:k<l.length) (h1:(l.take k).all p=true) (h2:p (at8 l k)=true):(l.take (k+1)).all p=true:=by
 rw [List.take_succ_eq_append_getElem h,List.all_append,h1];simpa [at8_eq l k h] using h2
theorem not_all_of {l:List UInt8} {p:UInt8->Bool} {k:Nat} (h:k<l.length) (h2:p (at8 l k)=false):l.all p=false:=by
 rw [List.all_eq_false];exact ⟨l[k],List.getElem_mem h,by rw [<- at8_eq l k h,h2];simp⟩
def Cs (w:World) (A:Option Addr) (vs:List Value):Prop :=
 0<vs.length->∃ b off,A=some ⟨b,off,none⟩/\b<w.heap.size/\∀ j u,vs[j]? = some u->w.cell? ⟨b,off+j,none⟩=some u
def aN (xs:List Nat) (j:Nat):Nat:=xs.getD j 0
def Ns (xs:List Nat):List Value:=xs.map fun x:Nat=>Value.int .i64 (x:Int)
theorem nL (xs:List Nat):(Ns xs).length=xs.length:=by simp [Ns]
theorem ng (xs:List Nat) (j:Nat) (h:j<xs.length):(Ns xs)[j]? = some (.int .i64 (aN xs j:Int)):=by simp [Ns,aN,h]
theorem Cs.num {w:World} {b off:Nat} {xs:List Nat} (h:∀ j u,(Ns xs)[j]? = some u->w.cell? ⟨b,off+j,none⟩=some u) (j:Nat) (hj:j<xs.length) :
  w.cell? ⟨b,off+j,none⟩=some (.int .i64 (aN xs j:Int)):=h j _ (ng xs j hj)
theorem Cs.keep {w w':World} {A:Option Addr} {vs:List Value} (h:Cs w A vs) (hs:w.heap.size<=w'.heap.size) (hk:∀ p:Addr,p.block<w.heap.size->w'.cell? p=w.cell? p):Cs w' A vs:=fun h0=>by
 obtain ⟨b,off,e,hb,hc⟩:=h h0;exact ⟨b,off,e,by omega,fun j u hu=>(hk ⟨b,off+j,none⟩ hb).trans (hc j u hu)⟩
theorem Cs.below {w w':World} {A:Option Addr} {vs:List Value} (h:Cs w A vs) (hb:Below w.heap.size w w'):Cs w' A vs :=
 h.keep hb.size fun p hp=>hb.cell (p:=p) hp
theorem Cs.nil (w:World) (A:Option Addr):Cs w A []:=fun h=>absurd h (by simp)
theorem Cs.take {w:World} {A:Option Addr} {vs:List Value} (h:Cs w A vs) (k:Nat):Cs w A (vs.take k):=fun h0=>by
 obtain ⟨b,off,e,hb,hc⟩:=h (by rw [List.length_take] at h0;omega);refine ⟨b,off,e,hb,fun j u hu=>hc j u ?_⟩;rw [List.getElem?_take] at hu;split at hu
 ·exact hu
 ·cases hu
end Go.Proofs.YtjcekdiocliddaaGreatDoor
namespace Go.Proofs.YtjcekdiocliddaaGreatDoor
open Lib (hid)
open Num
set_option linter.unusedVariables false
def seg (l:List UInt8) (a b:Nat):Nat:=val ((l.take b).drop a)
theorem seg_self (l:List UInt8) (a:Nat):seg l a a=0:=by
 unfold seg;rw [List.drop_of_length_le (by rw [List.length_take];omega)];rfl
theorem seg_succ (l:List UInt8) (a k:Nat) (ha:a<=k) (h:k<l.length):seg l a (k+1)=10*seg l a k+dv (at8 l k):=by
 unfold seg;rw [List.take_succ_eq_append_getElem h,List.drop_append_of_le_length (by rw [List.length_take];omega),Vs,at8_eq l k h]
theorem all_sub {l:List UInt8} {p:UInt8->Bool} (h:l.all p=true) (a b:Nat):((l.take b).drop a).all p=true:=by
 rw [List.all_eq_true] at h ⊢;intro x hx;exact h x (List.mem_of_mem_take (List.mem_of_mem_drop hx))
theorem seg_lt (l:List UInt8) (a b:Nat) (h:l.all iD=true) (hb:b<=a+9):seg l a b<1000000000:=by
 have h1:=val_lt _ (all_sub h a b);have h2:((l.take b).drop a).length<=9:=by rw [List.length_drop,List.length_take];omega
 have h3:10 ^ ((l.take b).drop a).length<=10 ^ 9:=Nat.pow_le_pow_right (by omega) h2;unfold seg;omega
theorem dig_of_all {l:List UInt8} (h:l.all iD=true) {k:Nat} (hk:k<l.length):48<=(at8 l k).toNat/\(at8 l k).toNat<=57:=by
 rw [List.all_eq_true] at h;have:=h l[k] (List.getElem_mem hk);rw [<- at8_eq l k hk] at this;simpa [iD] using this
theorem val_split (l:List UInt8) (a:Nat) (h:a<=l.length):val l=val (l.take a)*10 ^ (l.length - a)+seg l a l.length:=by
 have:=Va (l.take a) (l.drop a);rw [List.take_append_drop,List.length_drop] at this;rw [this];unfold seg;rw [List.take_of_length_le (Nat.le_refl _)]
end Go.Proofs.YtjcekdiocliddaaGreatDoor
namespace Go.Proofs.YtjcekdiocliddaaGreatDoor
open Lib (hid)
open Go.RowKit Num
attribute [local go_sem] BS Bg Bt Bm
set_option maxHeartbeats 400000 in
theorem ra (l:List UInt8) (w:World) (hs:l.length<=maxLen) :
  Calls Tryz.prog 172 #[.string (B l)] w fun e w'=>e=.returned (.bool (right l))/\w'=w:=by
 unfold maxLen at hs;by_cases h0:l=[]
 ·subst h0
  go_enter Tryz.func172,Tryz.ntmps172;go_wp2
  go_ret;exact ⟨rfl,rfl⟩
 ·have hlen:0<l.length:=List.length_pos_iff.2 h0
  have he:l.isEmpty=false:=by simpa using h0
  have hh:=hid (at8_zero_head l h0);have loop:(((at8 l 0).toNat:Int) == 48)=false∨((((at8 l 0).toNat:Int) == 48)=true/\(!(l == [48]))=false) ->
    Calls Tryz.prog 172 #[.string (B l)] w fun e w'=>e=.returned (.bool (right l))/\w'=w:=by
   intro hor
   have hr:right l=l.all iD:=by
    unfold right;rw [he,hh.out];rcases hor with h | ⟨h,h1⟩
    ·have:at8 l 0≠48:=by rintro e;rw [e] at h;simp at h
     simp [this]
    ·rw [Bool.not_eq_false'] at h1;rw [h1];simp
   have HR:=hid hr;clear hr hh h0;rcases hor with h1 | ⟨h1,h2⟩
   all_goals
    go_enter Tryz.func172,Tryz.ntmps172;go_wp2
    go_loop [3,17] (fun _ i=>∃ k:Nat,k<=l.length/\i=.int .i64 k/\(l.take k).all iD=true) (fun _ i=>l.length - (intOf i).toNat)
    case atStart=>exact ⟨0,Nat.zero_le _,rfl,by simp⟩
    case round =>
     obtain ⟨k,hk,rfl,hall⟩:=hrel;have HA:=hid hall;clear hall h1;by_cases hlt:k<l.length
     ·by_cases hd:iD (at8 l k)=true
      ·have hd':48<=((at8 l k).toNat:Int)/\((at8 l k).toNat:Int)<=57:=by simp [iD] at hd;omega
       have HT:=hid (aC hlt HA.out hd);clear hd;go_wp2
       go_round
       case rel=>exact ⟨k+1,by omega,by go_num,HT.out⟩
       case measure=>simp [intOf];omega
      ·have HT:=hid (not_all_of (p:=iD) hlt (by simpa using hd))
       by_cases hlo:((at8 l k).toNat:Int)<48
       ·clear hd
        go_wp2
        go_ret;exact ⟨rb (by rw [HR.out,HT.out]),rfl⟩
       ·have hhi:(57:Int)<((at8 l k).toNat:Int):=by simp [iD] at hd;omega
        clear hd;go_wp2
        go_ret;exact ⟨rb (by rw [HR.out,HT.out]),rfl⟩
     ·go_wp2
      go_ret;exact ⟨rb (by rw [HR.out,<- HA.out,List.take_of_length_le (by omega)]),rfl⟩
  by_cases h1:(((at8 l 0).toNat:Int) == 48)=true
  ·by_cases h2:(!(l == [48]))=false
   ·exact loop (.inr ⟨h1,h2⟩)
   ·have h2':(!(l == [48]))=true:=by simpa using h2
    have hr:right l=false:=by
     unfold right;rw [he,hh.out];have:at8 l 0=48:=by apply UInt8.toNat_inj.1;simp at h1;simp;omega
     rw [this];simp at h2'
     simp [h2']
    have HR:=hid hr;clear hr hh h0 h2 loop;go_enter Tryz.func172,Tryz.ntmps172;go_wp2
    go_ret;exact ⟨rb HR.out.symm,rfl⟩
  ·exact loop (.inl (by simpa using h1))
theorem Tl (xs:List Nat) (k:Nat) (hx:lS xs) (hk:k<=xs.length) (he:lv (xs.take k)=lv xs) (h:k=0∨aN xs (k - 1)≠0):(nl (lv xs)).length=k/\xs.take k=nl (lv xs):=by
 have h1:lS (xs.take k):=fun x hx'=>hx x (List.mem_of_mem_take hx')
 have h2:(xs.take k).getLast? ≠ some 0:=by
  rcases h with rfl | h
  ·simp
  ·by_cases h0:k=0
   ·subst h0;simp
   ·rw [List.getLast?_eq_getElem?,List.length_take,Nat.min_eq_left hk,List.getElem?_take]
    rw [if_pos (by omega)];intro e;apply h
    unfold aN;rw [List.getD_eq_getElem?_getD,e];rfl
 have:=nl_lv _ h1 h2;rw [he] at this;rw [this];simp [hk]
theorem tZ (xs:List Nat) (k:Nat) (hk:k<xs.length) (h:aN xs k=0):lv (xs.take k)=lv (xs.take (k+1)):=by
 rw [List.take_succ_eq_append_getElem hk];have:xs[k]=0:=by simpa [aN,hk] using h
 rw [this,lv_snoc_zero]
theorem Dd (xs:List Nat) (hx:lS xs):xs.take (nl (lv xs)).length=nl (lv xs):=by
 have:∀ k,k<=xs.length->lv (xs.take k)=lv xs->xs.take (nl (lv xs)).length=nl (lv xs):=by
  intro k
  induction k with
  |zero=>intro hk he;have:=Tl xs 0 hx hk he (.inl rfl);rw [this.1];exact this.2
  |succ k ih =>
   intro hk he;by_cases h:aN xs k=0
   ·exact ih (by omega) (by rw [tZ xs k (by omega) h];exact he)
   ·have:=Tl xs (k+1) hx hk he (.inr (by simpa using h));rw [this.1];exact this.2
 exact this xs.length (Nat.le_refl _) (by simp)
theorem trim_loop (xs:List Nat) (b off c:Nat) (w:World) (hx:lS xs) (hl:xs.length<=c) (hm:c<=maxLen)
  (hc:∀ j,j<xs.length->w.cell? ⟨b,off+j,none⟩=some (.int .i64 (aN xs j:Int))) :
  Calls Tryz.prog 192 #[.slice (some ⟨b,off,none⟩) xs.length c] w fun e w'=>e=.returned (.slice (some ⟨b,off,none⟩) (nl (lv xs)).length c)/\w'=w:=by
 unfold maxLen at hm;go_enter Tryz.func192,Tryz.ntmps192;go_wp2
 go_loop [0] (fun v=>∃ k:Nat,k<=xs.length/\v=.slice (some ⟨b,off,none⟩) k c/\lv (xs.take k)=lv xs) (fun v=>match v with | .slice _ k _=>k | _=>0)
 case atStart=>exact ⟨xs.length,Nat.le_refl _,rfl,by simp⟩
 case round =>
  obtain ⟨k,hk,rfl,he⟩:=hrel;have HE:=hid he;clear he;by_cases h0:k=0
  ·subst h0
   go_wp2
   go_ret;exact ⟨congrArg Ending.returned (by rw [(Tl xs 0 hx hk HE.out (.inl rfl)).1];rfl),rfl⟩
  ·have hc':w.cell? ⟨b,off+(k - 1),none⟩=some (.int .i64 (aN xs (k - 1):Int)):=hc (k - 1) (by omega)
   by_cases h1:aN xs (k - 1)=0
   ·have HS:=hid (tZ xs (k - 1) (by omega) h1)
    have h1':((aN xs (k - 1):Int) == 0)=true:=by rw [h1];rfl
    clear h1;go_wp2
    go_round
    case rel=>exact ⟨k - 1,by omega,rfl,by rw [HS.out,show k - 1+1=k by omega,HE.out]⟩
    case measure=>simp;omega
   ·have HS:=hid (Tl xs k hx hk HE.out (.inr h1))
    have h1':((aN xs (k - 1):Int) == 0)=false:=by rw [beq_eq_false_iff_ne];omega
    clear h1;go_wp2
    go_ret;exact ⟨congrArg Ending.returned (by rw [HS.out.1];rfl),rfl⟩
theorem trim_any (xs:List Nat) (A:Option Addr) (c:Nat) (w:World) (hx:lS xs) (hl:xs.length<=c) (hm:c<=maxLen) (hc:Cs w A (Ns xs)) :
  Calls Tryz.prog 192 #[.slice A xs.length c] w fun e w'=>e=.returned (.slice A (nl (lv xs)).length c)/\w'=w:=by
 by_cases h0:xs.length=0
 ·have:xs=[]:=List.eq_nil_of_length_eq_zero h0
  subst this;have hn:(nl (lv [])).length=0:=by rw [lv,nZ];rfl
  rw [hn];go_enter Tryz.func192,Tryz.ntmps192;go_wp2
  go_loop [0] (fun v=>v=.slice A 0 c) (fun _=>0)
  case atStart=>rfl
  case round =>
   subst hrel;go_wp2
   go_ret;exact ⟨rfl,rfl⟩
 ·obtain ⟨b,off,rfl,hb,h⟩:=hc (by rw [nL];omega)
  exact trim_loop xs b off c w hx hl hm (Cs.num h)
def cI (a b:Int):Int:=if a<b then -1 else if b<a then 1 else 0
theorem Ci (a b:Int) (w:World):Calls Tryz.prog 189 #[.int .i64 a,.int .i64 b] w fun e w'=>e=.returned (.int .i64 (cI a b))/\w'=w:=by
 have h1:(a != a)=false:=by simp
 have h2:(b != b)=false:=by simp
 by_cases h:a<b
 ·go_enter Tryz.func189,Tryz.ntmps189
  go_wp2
  go_ret;exact ⟨ri (by simp [cI,h]),rfl⟩
 ·by_cases h':b<a
  ·go_enter Tryz.func189,Tryz.ntmps189
   go_wp2
   go_ret;exact ⟨ri (by rw [cI,if_neg (by omega),if_pos h']),rfl⟩
  ·go_enter Tryz.func189,Tryz.ntmps189
   go_wp2
   go_ret;exact ⟨ri (by rw [cI,if_neg (by omega),if_neg (by omega)]),rfl⟩
def or2 (a b:Int):Int:=if a=0 then b else a
theorem CI (a b:Nat):cI (a:Int) (b:Int)=if a<b then -1 else if b<a then 1 else 0:=by
 unfold cI;simp only [Int.ofNat_lt]
theorem cmpI_lt {a b:Int} (h:a<b):cI a b = -1:=by rw [cI,if_pos h]
theorem cmpI_gt {a b:Int} (h:b<a):cI a b=1:=by rw [cI,if_neg (by omega),if_pos h]
theorem cmpI_eq {a b:Int} (h:a=b):cI a b=0:=by rw [cI,if_neg (by omega),if_neg (by omega)]
end Go.Proofs.YtjcekdiocliddaaGreatDoor
namespace Go.Proofs.YtjcekdiocliddaaGreatDoor
open Lib (hid)
open Go.RowKit
def OS (w:World) (Bs:Nat) (e:TypeId) (A:Option Addr) (n c:Nat) (xs:List Value):Prop:=w.ownsRow Bs e 1 (.slice A n c) n xs
theorem OS.nil (w:World) (Bs:Nat) (e:TypeId):OS w Bs e none 0 0 []:=⟨by simp,.inl ⟨rfl,rfl⟩⟩
theorem OS.len {w:World} {Bs:Nat} {e:TypeId} {A:Option Addr} {n c:Nat} {xs:List Value} (h:OS w Bs e A n c xs):xs.length=n:=by have:=h.1;omega
theorem OS.cap {w:World} {Bs:Nat} {e:TypeId} {A:Option Addr} {n c:Nat} {xs:List Value} (h:OS w Bs e A n c xs):n<=c/\c<=maxLen:=by
 rcases h.2 with ⟨hv,hn⟩ | ⟨g,cap,cur,hv,_,_,h1,h2,_⟩
 ·injection hv with _ _ hc;subst hc;subst hn;exact ⟨Nat.le_refl _,Nat.zero_le _⟩
 ·injection hv with _ _ hc;subst hc;exact ⟨h1,h2⟩
theorem OS.cells {w:World} {Bs:Nat} {e:TypeId} {A:Option Addr} {n c:Nat} {xs:List Value} (h:OS w Bs e A n c xs):Cs w A xs:=by
 intro h0;rcases h.2 with ⟨hv,hn⟩ | ⟨g,cap,cur,hv,_,hh,h1,_,_,h4⟩
 ·have:=h.1;omega
 ·injection hv with hA _ hc
  subst hA;subst hc;refine ⟨g,0,rfl,?_,fun j u hu=>?_⟩
  ·rcases Nat.lt_or_ge g w.heap.size with h' | h'
   ·exact h'
   ·rw [Array.getElem?_eq_none h'] at hh;cases hh
  ·have hj:j<xs.length:=(List.getElem?_eq_some_iff.1 hu).1
   have:=World.ownsRow.cellAt h j (by have:=h.1;omega);rw [Nat.zero_add,this,hu]
theorem OS.below {w w':World} {Bs:Nat} {e:TypeId} {A:Option Addr} {n c:Nat} {xs:List Value} (h:OS w Bs e A n c xs) (hb:Below w.heap.size w w'):OS w' Bs e A n c xs:=by
 refine ⟨h.1,?_⟩;rcases h.2 with h2 | ⟨g,cap,cur,hv,hg,hh,r⟩
 ·exact .inl h2
 ·refine .inr ⟨g,cap,cur,hv,hg,?_,r⟩
  rw [hb.block g ?_];exact hh;rcases Nat.lt_or_ge g w.heap.size with h' | h'
  ·exact h'
  ·rw [Array.getElem?_eq_none h'] at hh;cases hh
theorem OS.alloc {w:World} {Bs:Nat} {e:TypeId} {A:Option Addr} {n c:Nat} {xs:List Value} (h:OS w Bs e A n c xs) (o:Obj):OS (w.alloc o) Bs e A n c xs :=
 h.below ((Below.refl _ _).alloc (Nat.le_refl _) _)
theorem OS.at_ {w:World} {Bs:Nat} {e:TypeId} {A:Option Addr} {n c:Nat} {xs:List Value} (h:OS w Bs e A n c xs) (h0:0<n) :
  ∃ g,A=some ⟨g,0,none⟩/\Bs<=g/\g<w.heap.size/\(∀ j,j<n->w.cell? ⟨g,j,none⟩=xs[j]?)/\∀ j,w.frozen? ⟨g,j,none⟩=false:=by
 rcases h.2 with ⟨hv,hn⟩ | ⟨g,cap,cur,hv,hg,hh,h1,_,_,h4⟩
 ·omega
 ·injection hv with hA _ hc
  subst hA;subst hc;refine ⟨g,rfl,hg,?_,fun j hj=>World.ownsRow.cellAt h j (by omega),fun j=>World.ownsRow.frozenAt h j⟩;rcases Nat.lt_or_ge g w.heap.size with h' | h'
  ·exact h'
  ·rw [Array.getElem?_eq_none h'] at hh;cases hh
theorem OS.stored {w:World} {Bs g:Nat} {e:TypeId} {n c:Nat} {xs:List Value} (h:OS w Bs e (some ⟨g,0,none⟩) n c xs) (j:Nat) (u:Value) :
  OS (w.setCell ⟨g,j,none⟩ u) Bs e (some ⟨g,0,none⟩) n c (xs.set j u):=(World.ownsRow.stored h j u).1
def Elem (P:Program) (t e:TypeId) (z:Value) (bytes:Nat):Prop :=
 P.underlying t=some (.slice e)/\(∃ i,P.info? e=some i/\i.zero=some z/\i.size=1/\i.bytes=bytes)/\z.cells.size=1
section
variable {P:Program} {ops:Array Oper} {rest:List Oper} {o:Oper} {a:Act} {Q:Exit->Act->World->Prop}
theorem W1 {t e:TypeId} {z:Value} {bytes:Nat} (he:Elem P t e z bytes) (hgd:o.guard=none) (s x:Operand) (ho:o.op=.call { callee:=.builtin .append,args:=#[s,x],argTypes:=#[t,t] })
  (Bs:Nat) (A:Option Addr) (n c:Nat) (xs:List Value) (w:World) (u:Value) (hs:a.eval s=.slice A n c) (hown:OS w Bs e A n c xs)
  (hx:a.eval x=.slice (some ⟨w.heap.size,0,none⟩) 1 1) (h1:u.oneCell'=true) (h63:n+1<=maxLen) (hby:(n+1)*bytes<=140737488355328) (hbase:Bs<=w.heap.size)
  (h:∀ A' c' w',OS w' Bs e A' (n+1) c' (xs ++ [u])->Below Bs w w'->wpList P ops Q rest (a.put o.dst (.slice A' (n+1) c')) w') :
  wpList P ops Q (o :: rest) a (w.alloc (.cells #[u] e)):=by
 obtain ⟨ht,⟨i,hi,hz,hsz,hb⟩,hzs⟩:=he;have hown':(w.alloc (.cells #[u] e)).ownsRow Bs e 1 (.slice A n c) n xs:=hown.alloc _;refine wpList_append_own _ hgd s x t ho Bs e i z 1 bytes ht hi hz hsz hb hzs (by decide) _ n xs hs hown' ⟨w.heap.size,0,none⟩ 1 1 [u] hx rfl ?_ (by simpa using h1) h63 hby (by simp;omega) ?_
 ·intro j v hj
  match j,hj with
  |0,hj=>simp at hj;subst hj;simp [Addr.add]
 ·intro v' w' h2 h3 h4
  have hne:v'≠.slice none 0 0:=by intro e;have:=(h4.1 e).2;omega
  obtain ⟨g,cap,hv⟩:∃ g cap,v'=.slice (some ⟨g,0,none⟩) (n+1) cap:=by
   rcases h2.2 with ⟨hv,_⟩ | ⟨g,cap,cur,hv,_⟩
   ·exact absurd hv hne
   ·exact ⟨g,cap,hv⟩
  subst hv;refine h _ _ _ h2 ?_;refine ((Below.refl _ _).alloc hbase _).grown h3 (by simp;omega) ?_;intro k hk;rcases hown.2 with ⟨hv,_⟩ | ⟨g',cap',cur',hv,hg',_⟩
  ·rw [hv] at hk;simp [Value.ownBlock] at hk
  ·rw [hv] at hk;simp [Value.ownBlock] at hk;omega
theorem wp_mk0 {t e:TypeId} {z:Value} {bytes:Nat} (he:Elem P t e z bytes) (hgd:o.guard=none) (l c:Operand) (hop:o.op=Op.makeSlice t l c)
  (Bs:Nat) (w:World) (kl kc:IntKind) (C:Int) (n:Nat) (hl:a.eval l=.int kl 0) (hc:a.eval c=.int kc C) (hC:C=(n:Int)) (hby:bytes*n<=281474976710656) (h63:n<=maxLen) (hbase:Bs<=w.heap.size)
  (h:∀ A' w',OS w' Bs e A' 0 n []->Below Bs w w'->wpList P ops Q rest (a.put o.dst (.slice A' 0 n)) w') :
  wpList P ops Q (o :: rest) a w:=by
 obtain ⟨ht,⟨i,hi,hz,hsz,hb⟩,hzs⟩:=he;refine wpList_make_own _ hgd l c t hop Bs e i z 1 ht hi hz hsz kl kc C n hl hc hC (by rw [hb];exact hby) h63 hbase ?_;intro w' h1 h2;exact h _ _ h1 ((Below.refl _ _).grown h2 hbase (fun k hk=>by cases hk))
theorem wp_mkn {t e:TypeId} {z:Value} {bytes:Nat} (he:Elem P t e z bytes) (hgd:o.guard=none) (l c:Operand) (hop:o.op=Op.makeSlice t l c)
  (Bs:Nat) (w:World) (kl kc:IntKind) (L C:Int) (n:Nat) (hl:a.eval l=.int kl L) (hc:a.eval c=.int kc C) (hL:L=(n:Int)) (hC:C=(n:Int)) (hby:bytes*n<=281474976710656) (h63:n<=maxLen) (hbase:Bs<=w.heap.size)
  (hz1:z.cells=#[z])
  (h:∀ A' w',OS w' Bs e A' n n (List.replicate n z)->Below Bs w w'->wpList P ops Q rest (a.put o.dst (.slice A' n n)) w') :
  wpList P ops Q (o :: rest) a w:=by
 obtain ⟨ht,⟨i,hi,hz,hsz,hb⟩,hzs⟩:=he;refine wpList_make_full _ hgd l c t hop Bs e i z 1 ht hi hz hsz kl kc L C n hl hc hL hC (by rw [hb];exact hby) h63 hbase ?_;intro w' h1 h2;rw [hz1,Nat.mul_one,toList_madeCells_one] at h1;exact h _ _ h1 ((Below.refl _ _).grown h2 hbase (fun k hk=>by cases hk))
end
theorem int_info:(Tryz.prog.info? 3).map (fun i=>(i.zero,i.size,i.bytes))=some (some (.int .i64 0),1,8):=by kernel_rfl
theorem en:Elem Tryz.prog 263 3 (.int .i64 0) 8:=⟨Tryz.underlying263,info_parts int_info,rfl⟩
section
variable {P:Program} {ops:Array Oper} {rest:List Oper} {o:Oper} {a:Act} {Q:Exit->Act->World->Prop}
theorem rn (w:World) (base:Nat) (t ty e:TypeId) (i:TypeInfo) (size:Nat) (ht:P.underlying t=some (.slice e)) (hi:P.info? e=some i)
  (v:Value) (n:Nat) (xs:List Value) (hown:w.ownsRow base e size v n xs) (c:Nat):(Builtin.append_ #[t,t] ty #[v,.slice none 0 c]).run P w=.ok v w:=by
 rcases hown.2 with ⟨rfl,rfl⟩ | ⟨g,cap,cur,rfl,_,_,hnc,_⟩
 ·simp [Builtin.append_,run_underlying ht,sizeOf,typeInfo,hi,Builtin.lenOf,Builtin.firstCells]
 ·simp [Builtin.append_,run_underlying ht,sizeOf,typeInfo,hi,Builtin.lenOf,Builtin.firstCells,hnc,storeCells]
theorem OS.form {w:World} {Bs:Nat} {e:TypeId} {v:Value} {n:Nat} {xs:List Value} (h:w.ownsRow Bs e 1 v n xs):∃ A c,v=.slice A n c/\OS w Bs e A n c xs:=by
 have h0:=h;rcases h.2 with ⟨hv,hn⟩ | ⟨g,cap,cur,hv,_⟩
 ·subst hv;subst hn;exact ⟨none,0,rfl,h0⟩
 ·subst hv;exact ⟨_,_,rfl,h0⟩
theorem wp_appn {t e:TypeId} {z:Value} {bytes:Nat} (he:Elem P t e z bytes) (hgd:o.guard=none) (s x:Operand) (ho:o.op=.call { callee:=.builtin .append,args:=#[s,x],argTypes:=#[t,t] })
  (Bs:Nat) (A:Option Addr) (n c:Nat) (xs:List Value) (w:World) (A2:Option Addr) (m c2:Nat) (news:List Value) (hs:a.eval s=.slice A n c) (hown:OS w Bs e A n c xs)
  (hx:a.eval x=.slice A2 m c2) (hm:news.length=m) (hcell:Cs w A2 news) (h1:∀ u ∈ news,u.oneCell'=true) (h63:n+m<=maxLen) (hby:(n+m)*bytes<=140737488355328) (hbase:Bs<=w.heap.size)
  (h:∀ A' c' w',OS w' Bs e A' (n+m) c' (xs ++ news)->Below Bs w w'->wpList P ops Q rest (a.put o.dst (.slice A' (n+m) c')) w') :
  wpList P ops Q (o :: rest) a w:=by
 obtain ⟨ht,⟨i,hi,hz,hsz,hb⟩,hzs⟩:=he
 have hb0:∀ k,(Value.slice A n c).ownBlock=some k->Bs<=k:=by
  intro k hk;rcases hown.2 with ⟨hv,_⟩ | ⟨g',cap',cur',hv,hg',_⟩
  ·rw [hv] at hk;simp [Value.ownBlock] at hk
  ·rw [hv] at hk;simp [Value.ownBlock] at hk;omega
 rcases A2 with _ | ad
 ·have hm0:m=0:=by
   rcases Nat.eq_zero_or_pos m with h0 | h0
   ·exact h0
   ·obtain ⟨b,off,hA,_⟩:=hcell (by omega);cases hA
  subst hm0;have hn:news=[]:=List.eq_nil_of_length_eq_zero hm;subst hn;have hrun:=rn (P:=P) w Bs t o.type e i 1 ht hi (.slice A n c) n xs hown c2;refine wpList_plain hgd fun K hK=>?_;unfold Oper.wp execOp;simp only [ho,resolve,invoke,builtin,Sem.run_bind,Sem.run_pure,Result.andThen_ok,List.map_toArray,List.map_cons,List.map_nil,hs,hx,hrun]
  exact hK _ _ (by have:=h A c w (by simpa using hown) (Below.refl _ _);simpa using this)
 ·refine wpList_append_own _ hgd s x t ho Bs e i z 1 bytes ht hi hz hsz hb hzs (by decide) _ n xs hs hown ad m c2 news hx (by omega) ?_ h1 h63 hby hbase ?_
  ·intro j u hj
   have hjl:j<news.length:=(List.getElem?_eq_some_iff.1 hj).1;obtain ⟨b,off,hA,_,hc⟩:=hcell (by omega);injection hA with hA
   subst hA;have:=hc j u hj;unfold Addr.add;split
   ·rename_i h0;subst h0;simpa using this
   ·simpa using this
  ·intro v' w' h2 h3 _
   obtain ⟨A',c',hv,hown'⟩:=OS.form h2;subst hv;exact h A' c' w' hown' ((Below.refl _ _).grown h3 hbase hb0)
theorem OS.lit (w:World) (e:TypeId) (cs:Array Value) (Bs n:Nat) (hB:Bs<=w.heap.size) (hs:cs.size=n) (hm:n<=maxLen):OS (w.alloc (.cells cs e)) Bs e (some ⟨w.heap.size,0,none⟩) n n cs.toList :=
 World.ownsRow_lit w cs n hB hm (by omega)
end
end Go.Proofs.YtjcekdiocliddaaGreatDoor
namespace Go.Proofs.YtjcekdiocliddaaGreatDoor
open Lib (hid)
open Go.RowKit Num
set_option linter.unusedVariables false
attribute [local go_sem] BS Bg Bt Bm Be Ba
attribute [local go_sem high] rm
theorem rN {P:Program} (t e:TypeId) (i:TypeInfo) (z:Value) (ht:P.underlying t=some (.slice e)) (hi:P.info? e=some i) (hz:i.zero=some z)
  (kl kc:IntKind) (n c:Nat) (hnc:n<=c) (hbytes:i.bytes*c<=281474976710656) (h63:c<=9223372036854775807) (w:World) :
  (Instr.makeSlice t (.int kl (n:Int)) (.int kc (c:Int))).run P w=.ok (.slice (some ⟨w.heap.size,0,none⟩) n c) (w.alloc (.cells (madeCells z.cells (c*i.size)) e)):=by
 have hb:(i.bytes:Int)*(c:Int)<=281474976710656:=by
  have h:((i.bytes*c:Nat):Int)<=281474976710656:=by omega
  rwa [Int.natCast_mul] at h
 have hr:=run_make (P:=P) w t e i z ht hi hz kl kc n c (by omega) (by omega) hb (by omega);simp only [Int.toNat_natCast] at hr;exact hr
def bytes (l:List UInt8):List Value:=l.map fun b=>Value.int .u8 (b.toNat:Int)
theorem conv_bytes (g n c Bs:Nat) (l:List UInt8) (w:World) (hl:l.length=n) (h:OS w Bs 5 (some ⟨g,0,none⟩) n c (bytes l)) :
  (convert 241 9 (.slice (some ⟨g,0,none⟩) n c)).run Tryz.prog w=.ok (.string (B l)) w:=by
 have hc:∀ i,i<n->w.cell? ⟨g,0+i,none⟩=some (.int .u8 ((l.map fun b=>(b.toNat:Int)).getD i 0)):=by
  intro i hi;have:=World.ownsRow.cellAt h i (by omega);rw [Nat.zero_add,this];simp [bytes,List.getElem?_eq_getElem (show i<l.length by omega)]
 have:=run_convert_bytes_arg (P:=Tryz.prog) (w:=w) 241 5 Tryz.underlying241 Tryz.underlying5 g 0 n c (l.map fun b=>(b.toNat:Int)) (by simpa using hl) hc 9 Tryz.underlying9
 have hmap:∀ l:List UInt8,(l.map fun b=>(b.toNat:Int)).map (fun n=>UInt8.ofNat n.toNat)=l:=by
  intro l;rw [List.map_map]
  conv=>rhs;rw [<- List.map_id l]
  apply List.map_congr_left
  intro x _;simp
 have hs:strOfNums (l.map fun b=>(b.toNat:Int))=B l:=by
  unfold strOfNums B;rw [hmap]
 rw [this,hs]
end Go.Proofs.YtjcekdiocliddaaGreatDoor

/- Plain arithmetic of decimal texts and of limbs in base 10^9. No program in sight. -/
namespace Go.Proofs.YtjcekdiocliddaaGreatDoor
namespace Num
abbrev Str:=List UInt8
def isDig (c:UInt8):Bool:=decide (48≤c.toNat) && decide (c.toNat≤57)
def right (l:Str):Bool:=!l.isEmpty && (!(l.head? == some 48) || l == [48]) && l.all isDig
def dv (c:UInt8):Nat:=c.toNat - 48
def val (l:Str):Nat:=l.foldl (fun a c=>10*a+dv c) 0
def dch (d:Nat):UInt8:=UInt8.ofNat (48+d)
def dec (n:Nat):Str:=if _h:n<10 then [dch n] else dec (n / 10) ++ [dch (n % 10)]
termination_by n
decreasing_by omega
def digs:Nat→Nat→Str
 |0,_=>[]
 |k+1,m=>digs k (m / 10) ++ [dch (m % 10)]
theorem dch_toNat {d:Nat} (h:d<10):(dch d).toNat=48+d:=by
 unfold dch;rw [UInt8.toNat_ofNat'];omega
theorem dv_dch {d:Nat} (h:d<10):dv (dch d)=d:=by unfold dv;rw [dch_toNat h];omega
theorem isDig_dch {d:Nat} (h:d<10):isDig (dch d)=true:=by unfold isDig;rw [dch_toNat h];simp;omega
theorem dch_dv {c:UInt8} (h:isDig c=true):dch (dv c)=c:=by
 unfold isDig at h;simp at h
 apply UInt8.toNat_inj.1
 rw [dch_toNat (by unfold dv;omega)];unfold dv;omega
theorem dv_lt {c:UInt8} (h:isDig c=true):dv c<10:=by
 unfold isDig at h;simp at h;unfold dv;omega
theorem dch_zero:dch 0=48:=rfl
theorem dch_eq_48 {d:Nat} (h:d<10):dch d=48↔d=0:=by
 constructor
 ·intro e;have:=dch_toNat h;rw [e] at this;simp at this;omega
 ·rintro rfl;rfl
theorem foldl_val (l:Str):∀ a,l.foldl (fun a c=>10*a+dv c) a=a*10 ^ l.length+val l:=by
 induction l with
 |nil=>intro a;simp [val]
 |cons c t ih =>
  intro a
  have e:val (c :: t)=(10*0+dv c)*10 ^ t.length+val t:=by rw [← ih];rfl
  rw [List.foldl_cons,ih,e,List.length_cons,Nat.pow_succ]
  simp only [Nat.add_mul,Nat.mul_zero,Nat.zero_add]
  rw [show 10*a*10 ^ t.length=a*(10 ^ t.length*10) from by rw [Nat.mul_comm 10 a,Nat.mul_assoc,Nat.mul_comm 10]]
  omega
theorem val_nil:val []=0:=rfl
theorem val_append (a b:Str):val (a ++ b)=val a*10 ^ b.length+val b:=by
 unfold val;rw [List.foldl_append,foldl_val];rfl
theorem val_cons (c:UInt8) (t:Str):val (c :: t)=dv c*10 ^ t.length+val t:=by
 rw [show c :: t=[c] ++ t from rfl,val_append];simp [val]
theorem val_snoc (a:Str) (c:UInt8):val (a ++ [c])=10*val a+dv c:=by
 rw [val_append];simp [val];omega
theorem val_one (c:UInt8):val [c]=dv c:=by simp [val]
theorem val_lt (l:Str) (h:l.all isDig=true):val l<10 ^ l.length:=by
 induction l with
 |nil=>simp [val]
 |cons c t ih =>
  simp at h
  rw [val_cons,List.length_cons,Nat.pow_succ]
  have h1:=dv_lt h.1
  have h2:=ih (by simpa using h.2)
  have:(dv c+1)*10 ^ t.length≤10*10 ^ t.length:=Nat.mul_le_mul_right _ (by omega)
  rw [Nat.add_mul] at this
  omega
theorem dec_lt {n:Nat} (h:n<10):dec n=[dch n]:=by rw [dec];simp [h]
theorem dec_ge {n:Nat} (h:¬ n<10):dec n=dec (n / 10) ++ [dch (n % 10)]:=by rw [dec];simp [h]
theorem dec_zero:dec 0=[48]:=dec_lt (by omega)
theorem dec_ne_nil (n:Nat):dec n≠[]:=by
 by_cases h:n<10
 ·rw [dec_lt h];simp
 ·rw [dec_ge h];simp
theorem dec_all (n:Nat):(dec n).all isDig=true:=by
 induction n using Nat.strongRecOn with
 |_ n ih =>
  by_cases h:n<10
  ·rw [dec_lt h];simp [isDig_dch h]
  ·rw [dec_ge h,List.all_append,ih _ (by omega)];simp [isDig_dch (show n % 10<10 by omega)]
theorem val_dec (n:Nat):val (dec n)=n:=by
 induction n using Nat.strongRecOn with
 |_ n ih =>
  by_cases h:n<10
  ·rw [dec_lt h,val_one,dv_dch h]
  ·rw [dec_ge h,val_snoc,ih _ (by omega),dv_dch (by omega)];omega
theorem dec_head (n:Nat) (h:0<n):(dec n).head? ≠ some 48:=by
 induction n using Nat.strongRecOn with
 |_ n ih =>
  by_cases h1:n<10
  ·rw [dec_lt h1];simp [dch_eq_48 h1];omega
  ·rw [dec_ge h1]
   have:=ih (n / 10) (by omega) (by omega)
   rw [List.head?_append]
   cases hd:(dec (n / 10)).head? with
   |none=>exact absurd (List.head?_eq_none_iff.1 hd) (dec_ne_nil _)
   |some c=>simpa [hd] using this
theorem dec_inj {m n:Nat} (h:dec m=dec n):m=n:=by rw [← val_dec m,h,val_dec]
theorem right_dec (n:Nat):right (dec n)=true:=by
 unfold right
 rw [dec_all]
 have h1:(dec n).isEmpty=false:=by simpa using dec_ne_nil n
 rw [h1]
 by_cases h:n=0
 ·subst h;rw [dec_zero];rfl
 ·have:=dec_head n (by omega)
  simp [this]
theorem right_all {l:Str} (h:right l=true):l.all isDig=true:=by unfold right at h;simp only [Bool.and_eq_true] at h;exact h.2
theorem right_ne {l:Str} (h:right l=true):l≠[]:=by unfold right at h;intro e;subst e;simp at h
theorem right_head {l:Str} (h:right l=true):l.head? = some 48→l=[48]:=by
 unfold right at h;intro e;simp [e] at h;exact h.1.2
theorem val_pos_of_head {c:UInt8} {t:Str} (hd:isDig c=true) (h:c≠48):10 ^ t.length≤val (c :: t):=by
 rw [val_cons]
 have:0<dv c:=by
  unfold isDig at hd;simp at hd;unfold dv
  have:c.toNat≠48:=fun e=>h (UInt8.toNat_inj.1 (by simpa using e))
  omega
 have:=Nat.mul_le_mul_right (10 ^ t.length) (show 1≤dv c by omega)
 omega
theorem dec_val_snoc (a:Str) (c:UInt8) (hv:0<val a) (hc:isDig c=true) (ih:dec (val a)=a):dec (val (a ++ [c]))=a ++ [c]:=by
 have h1:=dv_lt hc
 rw [val_snoc,dec_ge (by omega),show (10*val a+dv c) / 10=val a by omega,show (10*val a+dv c) % 10=dv c by omega,ih,dch_dv hc]
theorem dec_val_aux:∀ (n:Nat) (l:Str),l.length=n→l≠[]→l.all isDig=true→l.head? ≠ some 48→dec (val l)=l:=by
 intro n
 induction n with
 |zero=>intro l h h1;exact absurd (List.eq_nil_of_length_eq_zero h) h1
 |succ n ih =>
  intro l hl hne hall hh
  rcases List.eq_nil_or_concat l with rfl | ⟨a,c,rfl⟩
  ·exact absurd rfl hne
  ·rw [List.concat_eq_append] at *
   simp only [List.all_append,Bool.and_eq_true,List.all_cons,List.all_nil,Bool.and_true] at hall
   by_cases ha:a=[]
   ·subst ha;simp only [List.nil_append];rw [val_one,dec_lt (dv_lt hall.2),dch_dv hall.2]
   ·have hha:a.head? ≠ some 48:=by
     cases a with
     |nil=>exact absurd rfl ha
     |cons x y=>simpa using hh
    have ih':=ih a (by simpa using hl) ha hall.1 hha
    refine dec_val_snoc a c ?_ hall.2 ih'
    cases a with
    |nil=>exact absurd rfl ha
    |cons x y =>
     have:=val_pos_of_head (c:=x) (t:=y) (by have:=hall.1;simp at this;exact this.1) (by simpa using hha)
     have:=Nat.pow_pos (n:=y.length) (show 0<10 by omega)
     omega
theorem dec_val {l:Str} (h:right l=true):dec (val l)=l:=by
 by_cases h0:l.head? = some 48
 ·rw [right_head h h0];exact dec_zero
 ·exact dec_val_aux _ l rfl (right_ne h) (right_all h) h0
theorem right_iff (l:Str):right l=true↔∃ n,l=dec n :=
 ⟨fun h=>⟨val l,(dec_val h).symm⟩,fun ⟨n,e⟩=>e ▸ right_dec n⟩
theorem length_dec_le {n k:Nat} (hk:0<k):(dec n).length≤k↔n<10 ^ k:=by
 induction k generalizing n with
 |zero=>omega
 |succ k ih =>
  by_cases h:n<10
  ·rw [dec_lt h];simp
   have:10 ^ 1≤10 ^ (k+1):=Nat.pow_le_pow_right (by omega) (by omega)
   omega
  ·rw [dec_ge h,List.length_append,List.length_cons,List.length_nil]
   by_cases hk0:k=0
   ·subst hk0
    have h1:0<(dec (n / 10)).length:=List.length_pos_iff.2 (dec_ne_nil _)
    omega
   ·have:=@ih (n / 10) (by omega)
    rw [Nat.pow_succ]
    constructor
    ·intro h2;have:=this.1 (by omega);omega
    ·intro h2;have:=this.2 (by omega);omega
theorem length_dec_pos (n:Nat):0<(dec n).length:=List.length_pos_iff.2 (dec_ne_nil _)
theorem length_dec_mono {m n:Nat} (h:m≤n):(dec m).length≤(dec n).length :=
 (length_dec_le (length_dec_pos n)).2 (Nat.lt_of_le_of_lt h ((length_dec_le (length_dec_pos n)).1 (Nat.le_refl _)))
theorem val_lt_len {l:Str} (h:right l=true):val l<10 ^ l.length:=val_lt l (right_all h)
theorem digs_length (k m:Nat):(digs k m).length=k:=by
 induction k generalizing m with
 |zero=>rfl
 |succ k ih=>simp [digs,ih]
theorem dec_mul_add (k n m:Nat) (hn:0<n) (hm:m<10 ^ k):dec (n*10 ^ k+m)=dec n ++ digs k m:=by
 induction k generalizing m with
 |zero=>simp [digs];rw [Nat.pow_zero] at hm;congr 1;omega
 |succ k ih =>
  have h1:m / 10<10 ^ k:=by rw [Nat.pow_succ] at hm;omega
  have h2:n*10 ^ (k+1)=10*(n*10 ^ k):=by rw [Nat.pow_succ,← Nat.mul_assoc,Nat.mul_comm]
  have h3:1≤n*10 ^ k:=Nat.mul_pos hn (Nat.pow_pos (by omega))
  rw [dec_ge (by omega),h2,show (10*(n*10 ^ k)+m) / 10=n*10 ^ k+m / 10 by omega,show (10*(n*10 ^ k)+m) % 10=m % 10 by omega,ih _ h1,digs,List.append_assoc]
theorem digs_zero (k:Nat):digs k 0=List.replicate k 48:=by
 induction k with
 |zero=>rfl
 |succ k ih=>rw [digs,Nat.zero_div,ih,List.replicate_succ',show dch (0 % 10)=48 from rfl]
theorem digs_pad (k m:Nat) (hk:0<k) (hm:m<10 ^ k):digs k m=List.replicate (k - (dec m).length) 48 ++ dec m:=by
 induction k generalizing m with
 |zero=>omega
 |succ k ih =>
  by_cases h:m<10
  ·rw [digs,show m / 10=0 by omega,digs_zero,dec_lt h,show m % 10=m by omega];simp
  ·rw [digs,dec_ge h]
   by_cases hk0:k=0
   ·subst hk0;simp at hm;omega
   ·rw [ih (m / 10) (by omega) (by rw [Nat.pow_succ] at hm;omega)]
    simp [List.append_assoc]
def cmpN (a b:Nat):Int:=if a<b then -1 else if a=b then 0 else 1
def lv:List Nat→Nat
 |[]=>0
 |x :: t=>x+1000000000*lv t
def nl (n:Nat):List Nat:=if _h:n=0 then [] else n % 1000000000 :: nl (n / 1000000000)
termination_by n
decreasing_by omega
def limbs (xs:List Nat):Prop:=∀ x ∈ xs,x<1000000000
theorem nl_zero:nl 0=[]:=by rw [nl];simp
theorem nl_pos {n:Nat} (h:n≠0):nl n=n % 1000000000 :: nl (n / 1000000000):=by rw [nl];simp [h]
theorem lv_nl (n:Nat):lv (nl n)=n:=by
 induction n using Nat.strongRecOn with
 |_ n ih =>
  by_cases h:n=0
  ·subst h;rw [nl_zero];rfl
  ·rw [nl_pos h,lv,ih _ (by omega)];omega
theorem limbs_nl (n:Nat):limbs (nl n):=by
 induction n using Nat.strongRecOn with
 |_ n ih =>
  by_cases h:n=0
  ·subst h;rw [nl_zero];intro x hx;cases hx
  ·rw [nl_pos h];intro x hx
   rcases List.mem_cons.1 hx with rfl | hx
   ·omega
   ·exact ih _ (by omega) x hx
theorem nl_inj {m n:Nat} (h:nl m=nl n):m=n:=by rw [← lv_nl m,h,lv_nl]
theorem nl_eq_nil {n:Nat}:nl n=[]↔n=0:=by
 constructor
 ·intro h;rw [← lv_nl n,h];rfl
 ·rintro rfl;exact nl_zero
theorem nl_cons (x n:Nat) (hx:x<1000000000) (h:x≠0∨n≠0):nl (x+1000000000*n)=x :: nl n:=by
 rw [nl_pos (by omega),show (x+1000000000*n) % 1000000000=x by omega,show (x+1000000000*n) / 1000000000=n by omega]
theorem lv_append (a b:List Nat):lv (a ++ b)=lv a+1000000000 ^ a.length*lv b:=by
 induction a with
 |nil=>simp [lv]
 |cons x t ih =>
  rw [List.cons_append,lv,ih,lv,List.length_cons,Nat.pow_succ,Nat.mul_add,← Nat.mul_assoc,Nat.mul_comm (1000000000 ^ t.length)]
  omega
theorem lv_lt (xs:List Nat) (h:limbs xs):lv xs<1000000000 ^ xs.length:=by
 induction xs with
 |nil=>simp [lv]
 |cons x t ih =>
  have h1:=h x (by simp)
  have h2:=ih (fun y hy=>h y (by simp [hy]))
  rw [lv,List.length_cons,Nat.pow_succ]
  omega
theorem nl_lv (xs:List Nat) (h:limbs xs) (hl:xs.getLast? ≠ some 0):nl (lv xs)=xs:=by
 induction xs with
 |nil=>rw [lv,nl_zero]
 |cons x t ih =>
  have h1:=h x (by simp)
  have h2:limbs t:=fun y hy=>h y (by simp [hy])
  have h3:t.getLast? ≠ some 0:=by
   cases t with
   |nil=>simp
   |cons y u=>simpa [List.getLast?_cons_cons] using hl
  have ih':=ih h2 h3
  have hx:x≠0∨lv t≠0:=by
   cases t with
   |nil=>left;simpa using hl
   |cons y u =>
    right;intro e
    rw [e,nl_zero] at ih';cases ih'
  rw [lv,nl_cons x _ h1 hx,ih']
theorem nl_last (n:Nat):(nl n).getLast? ≠ some 0:=by
 induction n using Nat.strongRecOn with
 |_ n ih =>
  by_cases h:n=0
  ·subst h;rw [nl_zero];simp
  ·rw [nl_pos h]
   by_cases h1:n / 1000000000=0
   ·rw [h1,nl_zero];simp;omega
   ·have:=ih (n / 1000000000) (by omega)
    cases hn:nl (n / 1000000000) with
    |nil=>exact absurd (nl_eq_nil.1 hn) h1
    |cons y u=>rw [List.getLast?_cons_cons,← hn];exact this
theorem lv_snoc_zero (xs:List Nat):lv (xs ++ [0])=lv xs:=by rw [lv_append];simp [lv]
theorem limbs_nil:limbs []:=fun x hx=>by cases hx
theorem limbs_append {a b:List Nat}:limbs (a ++ b)↔limbs a∧limbs b:=by
 unfold limbs;constructor
 ·intro h;exact ⟨fun x hx=>h x (by simp [hx]),fun x hx=>h x (by simp [hx])⟩
 ·rintro ⟨h1,h2⟩ x hx
  rcases List.mem_append.1 hx with h | h
  ·exact h1 x h
  ·exact h2 x h
theorem nl_length_le {n k:Nat}:(nl n).length≤k↔n<1000000000 ^ k:=by
 induction k generalizing n with
 |zero=>simp [nl_eq_nil]
 |succ k ih =>
  by_cases h:n=0
  ·subst h;rw [nl_zero];simp;exact Nat.pow_pos (by omega)
  ·rw [nl_pos h,List.length_cons,Nat.pow_succ]
   have:=@ih (n / 1000000000)
   constructor
   ·intro h1;have:=this.1 (by omega);omega
   ·intro h1;have:=this.2 (by omega);omega
theorem nl_length_mono {m n:Nat} (h:m≤n):(nl m).length≤(nl n).length :=
 nl_length_le.2 (Nat.lt_of_le_of_lt h (nl_length_le.1 (Nat.le_refl _)))
theorem dec_nl_cons (x n:Nat) (hx:x<1000000000) (hn:n≠0):dec (x+1000000000*n)=dec n ++ digs 9 x:=by
 rw [← dec_mul_add 9 n x (by omega) (by omega)];congr 1;omega
end Num
end Go.Proofs.YtjcekdiocliddaaGreatDoor
namespace Go.Proofs.YtjcekdiocliddaaGreatDoor
namespace Num
def decI (z:Int):Str:=if z<0 then 45 :: dec z.natAbs else dec z.natAbs
def neg? (s:Str):Bool:=s.head? == some 45
def mag (s:Str):Str:=if neg? s=true then s.tail else s
def rightI (s:Str):Bool:=right (mag s) && !(neg? s && mag s == [48])
def valI (s:Str):Int:=if neg? s=true then -(val (mag s):Int) else (val (mag s):Int)
theorem dec_head_ne (n:Nat):(dec n).head? ≠ some 45:=by
 intro h
 have:=dec_all n
 cases hd:dec n with
 |nil=>exact dec_ne_nil n hd
 |cons c t =>
  rw [hd] at h this
  simp at h this
  rw [h] at this
  exact absurd this.1 (by decide)
theorem neg_dec (n:Nat):neg? (dec n)=false:=by unfold neg?;simpa using dec_head_ne n
theorem mag_dec (n:Nat):mag (dec n)=dec n:=by unfold mag;rw [neg_dec];rfl
theorem neg_minus (s:Str):neg? (45 :: s)=true:=rfl
theorem mag_minus (s:Str):mag (45 :: s)=s:=rfl
theorem neg_decI (z:Int):neg? (decI z)=decide (z<0):=by
 unfold decI
 by_cases h:z<0
 ·rw [if_pos h];simp [h,neg_minus]
 ·rw [if_neg h];simp [h,neg_dec]
theorem mag_decI (z:Int):mag (decI z)=dec z.natAbs:=by
 unfold decI
 by_cases h:z<0
 ·rw [if_pos h];rfl
 ·rw [if_neg h];exact mag_dec _
theorem valI_decI (z:Int):valI (decI z)=z:=by
 unfold valI
 rw [neg_decI,mag_decI,val_dec]
 by_cases h:z<0
 ·simp [h];omega
 ·simp [h];omega
theorem rightI_decI (z:Int):rightI (decI z)=true:=by
 unfold rightI
 rw [mag_decI,neg_decI,right_dec]
 by_cases h:z<0
 ·have:dec z.natAbs≠[48]:=by
   intro e
   have:=congrArg val e
   rw [val_dec] at this
   have h2:val [48]=0:=rfl
   omega
  simp [this]
 ·simp [h]
theorem decI_valI {s:Str} (h:rightI s=true):decI (valI s)=s:=by
 unfold rightI at h
 simp only [Bool.and_eq_true,Bool.not_eq_true',Bool.and_eq_false_iff] at h
 obtain ⟨h1,h2⟩:=h
 by_cases hn:neg? s=true
 ·have hm:mag s=s.tail:=by unfold mag;rw [if_pos hn]
  have hne:mag s≠[48]:=by
   rcases h2 with h2 | h2
   ·rw [hn] at h2;cases h2
   ·intro e;rw [e] at h2;exact absurd h2 (by decide)
  have hpos:val (mag s)≠0:=by
   intro e
   apply hne
   rw [← dec_val h1,e,dec_zero]
  unfold valI decI
  rw [if_pos hn,if_pos (by omega)]
  have:(-(val (mag s):Int)).natAbs=val (mag s):=by omega
  rw [this,dec_val h1,hm]
  cases s with
  |nil=>simp [neg?] at hn
  |cons c t=>simp [neg?] at hn;subst hn;rfl
 ·have hm:mag s=s:=by unfold mag;rw [if_neg hn]
  unfold valI decI
  rw [if_neg hn,if_neg (by omega),Int.natAbs_natCast,dec_val h1,hm]
theorem rightI_iff (s:Str):rightI s=true↔∃ z,s=decI z:=⟨fun h=>⟨valI s,(decI_valI h).symm⟩,fun ⟨z,e⟩=>e ▸ rightI_decI z⟩
theorem decI_inj {a b:Int} (h:decI a=decI b):a=b:=by rw [← valI_decI a,h,valI_decI]
theorem decI_zero:decI 0=[48]:=by unfold decI;exact dec_zero
theorem decI_nat (n:Nat):decI (n:Int)=dec n:=by unfold decI;rw [if_neg (by omega)];rfl
theorem decI_neg {n:Nat} (h:0<n):decI (-(n:Int))=45 :: dec n:=by unfold decI;rw [if_pos (by omega)];congr 1;congr 1;omega
theorem mag_length (s:Str):(mag s).length≤s.length:=by unfold mag;split <;> simp
theorem mag_length_decI (z:Int):(decI z).length≤(dec z.natAbs).length+1:=by unfold decI;split <;> simp
end Num
end Go.Proofs.YtjcekdiocliddaaGreatDoor
namespace Go.Proofs.YtjcekdiocliddaaGreatDoor
namespace Num
def fits (z:Int):Prop:=-9223372036854775808≤z∧z≤9223372036854775807
instance (z:Int):Decidable (fits z):=by unfold fits;infer_instance
def numE (s:Str):Int:=if rightI s=true then (if fits (valI s) then 0 else 4) else 3
def numV (s:Str):Int:=if numE s=0 then valI s else 0
theorem num_bad {s:Str} (h:rightI s=false):numE s=3∧numV s=0:=by
 have:numE s=3:=by unfold numE;rw [h];rfl
 exact ⟨this,by unfold numV;rw [this];rfl⟩
theorem num_big {s:Str} (h:rightI s=true) (h2:¬ fits (valI s)):numE s=4∧numV s=0:=by
 have:numE s=4:=by unfold numE;rw [if_pos h,if_neg h2]
 exact ⟨this,by unfold numV;rw [this];rfl⟩
theorem num_good {s:Str} (h:rightI s=true) (h2:fits (valI s)):numE s=0∧numV s=valI s:=by
 have:numE s=0:=by unfold numE;rw [if_pos h,if_pos h2]
 exact ⟨this,by unfold numV;rw [this];rfl⟩
theorem num_decI {z:Int} (h:fits z):numE (decI z)=0∧numV (decI z)=z:=by
 have:=num_good (rightI_decI z) (by rw [valI_decI];exact h)
 rw [valI_decI] at this;exact this
theorem num_zero {s:Str} (h:numE s=0):decI (numV s)=s∧fits (numV s):=by
 unfold numV;rw [if_pos h]
 unfold numE at h
 by_cases h1:rightI s=true
 ·rw [if_pos h1] at h
  by_cases h2:fits (valI s)
  ·exact ⟨decI_valI h1,h2⟩
  ·rw [if_neg h2] at h;cases h
 ·rw [if_neg h1] at h;cases h
theorem rightI_no_empty {s:Str} (h:mag s=[]):rightI s=false:=by unfold rightI;rw [h];rfl
theorem rightI_no_zero {s:Str} (h:(mag s).head? = some 48) (h2:s≠[48]):rightI s=false:=by
 unfold rightI right
 rw [h]
 by_cases hn:neg? s=true
 ·rw [hn]
  by_cases h3:mag s=[48]
  ·simp [h3]
  ·simp [h3]
 ·have:mag s=s:=by unfold mag;rw [if_neg hn]
  rw [this] at h ⊢
  simp [h2]
theorem rightI_no_digit {s:Str} (h:(mag s).all isDig=false):rightI s=false:=by unfold rightI right;rw [h];simp
theorem rightI_yes {s:Str} (h:mag s≠[]) (h1:(mag s).head? ≠ some 48∨s=[48]) (h2:(mag s).all isDig=true):rightI s=true:=by
 unfold rightI right
 rw [h2]
 rcases h1 with h1 | h1
 ·have h3:mag s≠[48]:=by intro e;rw [e] at h1;exact h1 rfl
  simp [h,h1,h3]
 ·subst h1;decide
theorem rightI_mag {s:Str} (h:rightI s=true):right (mag s)=true:=by unfold rightI at h;simp at h;exact h.1
theorem right_parts {s:Str} (h:right s=true):s.all isDig=true∧s≠[]:=by
 unfold right at h;simp only [Bool.and_eq_true,Bool.not_eq_true',List.isEmpty_eq_false_iff] at h;exact ⟨h.2,h.1.1⟩
theorem tdiv_test (n d:Int) (hd:0≤d) (hd2:d≤9):n<Int.tdiv (-9223372036854775808+d) 10↔10*n - d < -9223372036854775808:=by
 have h:Int.tdiv (-9223372036854775808+d) 10 = -((9223372036854775808 - d) / 10):=by
  rw [show (-9223372036854775808+d:Int) = -(9223372036854775808 - d) by omega,Int.neg_tdiv,Int.tdiv_eq_ediv_of_nonneg (by omega)]
 rw [h];omega
theorem tmod_abs (x:Int):(Int.tmod x 10).natAbs=x.natAbs % 10:=by rw [Int.natAbs_tmod];rfl
theorem tdiv_abs (x:Int):(Int.tdiv x 10).natAbs=x.natAbs / 10:=by rw [Int.natAbs_tdiv];rfl
theorem dec_len20 {z:Int} (h:fits z):(dec z.natAbs).length≤20:=by
 refine (length_dec_le (by omega)).2 ?_
 have:(10:Nat) ^ 20=100000000000000000000:=by decide
 unfold fits at h
 omega
end Num
end Go.Proofs.YtjcekdiocliddaaGreatDoor
namespace Go.Proofs.YtjcekdiocliddaaGreatDoor
namespace Num
def errI (a b:Str):Int:=if rightI a=true∧rightI b=true then (if (mag a).length≤4096∧(mag b).length≤4096 then 0 else 4) else 3
theorem errI_zero {a b:Str}:errI a b=0↔rightI a=true∧rightI b=true∧(mag a).length≤4096∧(mag b).length≤4096:=by
 unfold errI
 by_cases h:rightI a=true∧rightI b=true
 ·rw [if_pos h]
  by_cases h2:(mag a).length≤4096∧(mag b).length≤4096
  ·rw [if_pos h2];simp [h,h2]
  ·rw [if_neg h2];simp [h];omega
 ·rw [if_neg h];simp;intro h1 h2;exact absurd ⟨h1,h2⟩ h
def resIS (z:Int):Str:=if (dec z.natAbs).length≤4096 then decI z else []
def resIE (z:Int):Int:=if (dec z.natAbs).length≤4096 then 0 else 4
def addIS (a b:Str):Str:=if errI a b=0 then resIS (valI a+valI b) else []
def addIE (a b:Str):Int:=if errI a b=0 then resIE (valI a+valI b) else errI a b
def subIS (a b:Str):Str:=if errI a b=0 then resIS (valI a - valI b) else []
def subIE (a b:Str):Int:=if errI a b=0 then resIE (valI a - valI b) else errI a b
def mulIS (a b:Str):Str:=if errI a b=0 then resIS (valI a*valI b) else []
def mulIE (a b:Str):Int:=if errI a b=0 then resIE (valI a*valI b) else errI a b
def negIS (a:Str):Str:=if errI a a=0 then decI (-(valI a)) else []
def absIS (a:Str):Str:=if errI a a=0 then decI ((valI a).natAbs:Int) else []
def qI (x y:Int):Int:=if y<0 then (-x) / (-y) else x / y
def rI (x y:Int):Int:=x - y*qI x y
def divIE (a b:Str):Int:=if errI a b=0 then (if valI b=0 then 10 else 0) else errI a b
def divIQ (a b:Str):Str:=if divIE a b=0 then decI (qI (valI a) (valI b)) else []
def divIR (a b:Str):Str:=if divIE a b=0 then decI (rI (valI a) (valI b)) else []
def ordI (x y:Int):Int:=if x<y then -1 else if y<x then 1 else 0
def cmpIS (a b:Str):Int:=if rightI a=true∧rightI b=true then ordI (valI a) (valI b) else 0
def signIS (a:Str):Int:=if rightI a=true then ordI (valI a) 0 else 0
def sg (m:Bool) (n:Nat):Int:=if m=true then -(n:Int) else (n:Int)
theorem sg_false (n:Nat):sg false n=(n:Int):=rfl
theorem sg_true (n:Nat):sg true n = -(n:Int):=rfl
theorem sg_abs (m:Bool) (n:Nat):(sg m n).natAbs=n:=by cases m <;> simp [sg]
theorem sg_zero (m:Bool):sg m 0=0:=by cases m <;> rfl
theorem valI_sg (s:Str):valI s=sg (neg? s) (val (mag s)):=rfl
theorem decI_sg_pos {n:Nat} (h:n≠0):decI (sg true n)=45 :: dec n:=by
 rw [sg_true,decI_neg (by omega)]
theorem decI_sg_false (n:Nat):decI (sg false n)=dec n:=decI_nat n
theorem sg_not (m:Bool) (n:Nat):sg (!m) n = -(sg m n):=by cases m <;> simp [sg]
theorem right_mag {s:Str} (h:rightI s=true):right (mag s)=true:=by unfold rightI at h;simp at h;exact h.1
theorem dec_mag {s:Str} (h:rightI s=true):mag s=dec (val (mag s)):=(dec_val (right_mag h)).symm
theorem abs_valI (s:Str):(valI s).natAbs=val (mag s):=by rw [valI_sg,sg_abs]
theorem sum_same (m:Bool) (x y:Nat):sg m x+sg m y=sg m (x+y):=by cases m <;> simp [sg] <;> omega
theorem sum_less {m n:Bool} {x y:Nat} (h:m≠n) (hl:x<y):sg m x+sg n y=sg n (y - x):=by
 cases m <;> cases n <;> simp [sg] at * <;> omega
theorem sum_more {m n:Bool} {x y:Nat} (h:m≠n) (hl:y≤x):sg m x+sg n y=sg m (x - y):=by
 cases m <;> cases n <;> simp [sg] at * <;> omega
theorem mul_sg (m n:Bool) (x y:Nat):sg m x*sg n y=sg (m != n) (x*y):=by
 cases m <;> cases n <;> simp [sg,Int.mul_neg,Int.neg_mul]
theorem div_unique {x b q r:Int} (h:x=b*q+r) (h0:0≤r) (h1:r<b):x / b=q:=by
 have:=(Int.ediv_emod_unique (a:=x) (b:=b) (r:=r) (q:=q) (by omega)).2 ⟨by rw [h];omega,h0,h1⟩
 exact this.1
theorem div_same (m:Bool) {x y:Nat} (hy:0<y):qI (sg m x) (sg m y)=((x / y:Nat):Int)∧rI (sg m x) (sg m y)=sg m (x % y):=by
 have h1:=Nat.div_add_mod x y
 have h2:=Nat.mod_lt x hy
 have hq:qI (sg m x) (sg m y)=((x / y:Nat):Int):=by
  unfold qI
  cases m
  ·rw [sg_false,sg_false,if_neg (by omega)];simp
  ·rw [sg_true,sg_true,if_pos (by omega)];simp
 refine ⟨hq,?_⟩
 unfold rI
 rw [hq]
 have h3:(y:Int)*((x / y:Nat):Int)+((x % y:Nat):Int)=(x:Int):=by rw [← Int.natCast_mul];omega
 cases m
 ·rw [sg_false,sg_false,sg_false];omega
 ·rw [sg_true,sg_true,sg_true,Int.neg_mul];omega
theorem div_exact {m n:Bool} {x y:Nat} (hmn:m≠n) (hy:0<y) (hr:x % y=0):qI (sg m x) (sg n y)=sg true (x / y)∧rI (sg m x) (sg n y)=0:=by
 have h1:=Nat.div_add_mod x y
 have h3:(y:Int)*((x / y:Nat):Int)=(x:Int):=by rw [← Int.natCast_mul];omega
 have hd:(-(x:Int)) / (y:Int) = -((x / y:Nat):Int):=div_unique (r:=0) (by rw [Int.mul_neg];omega) (by omega) (by omega)
 have hq:qI (sg m x) (sg n y)=sg true (x / y):=by
  unfold qI
  rw [sg_true]
  cases m <;> cases n
  ·exact absurd rfl hmn
  ·rw [sg_false,sg_true,if_pos (by omega),Int.neg_neg];exact hd
  ·rw [sg_false,sg_true,if_neg (by omega)];exact hd
  ·exact absurd rfl hmn
 refine ⟨hq,?_⟩
 unfold rI
 rw [hq,sg_true]
 cases m <;> cases n
 ·exact absurd rfl hmn
 ·rw [sg_false,sg_true,Int.neg_mul_neg];omega
 ·rw [sg_false,sg_true,Int.mul_neg];omega
 ·exact absurd rfl hmn
theorem div_other {m n:Bool} {x y:Nat} (hmn:m≠n) (hy:0<y) (hr:x % y≠0):qI (sg m x) (sg n y)=sg true (x / y+1)∧rI (sg m x) (sg n y)=sg n (y - x % y):=by
 have h1:=Nat.div_add_mod x y
 have h2:=Nat.mod_lt x hy
 have h3:(y:Int)*((x / y:Nat):Int)+((x % y:Nat):Int)=(x:Int):=by rw [← Int.natCast_mul];omega
 have h4:(y:Int)*((x / y+1:Nat):Int)=(y:Int)*((x / y:Nat):Int)+y:=by rw [Int.natCast_add,Int.mul_add];simp
 have hd:(-(x:Int)) / (y:Int) = -((x / y+1:Nat):Int):=div_unique (r:=((y - x % y:Nat):Int)) (by rw [Int.mul_neg];omega) (by omega) (by omega)
 have hq:qI (sg m x) (sg n y)=sg true (x / y+1):=by
  unfold qI
  rw [sg_true]
  cases m <;> cases n
  ·exact absurd rfl hmn
  ·rw [sg_false,sg_true,if_pos (by omega),Int.neg_neg];exact hd
  ·rw [sg_false,sg_true,if_neg (by omega)];exact hd
  ·exact absurd rfl hmn
 refine ⟨hq,?_⟩
 unfold rI
 rw [hq,sg_true]
 cases m <;> cases n
 ·exact absurd rfl hmn
 ·rw [sg_false,sg_true,Int.neg_mul_neg,sg_true];omega
 ·rw [sg_false,sg_true,Int.mul_neg,sg_false];omega
 ·exact absurd rfl hmn
theorem res_of {s:Str} {z:Int} (h:rightI s=true) (hv:valI s=z) (hl:(mag s).length≤4096):resIS z=s∧resIE z=0:=by
 have h1:(dec z.natAbs).length≤4096:=by rw [← hv,abs_valI,← dec_mag h];exact hl
 exact ⟨by rw [resIS,if_pos h1,← hv,decI_valI h],by rw [resIE,if_pos h1]⟩
theorem decI_of {s:Str} {z:Int} (h:rightI s=true) (hv:valI s=z):decI z=s:=by rw [← hv,decI_valI h]
end Num
end Go.Proofs.YtjcekdiocliddaaGreatDoor
namespace Go.Proofs.YtjcekdiocliddaaGreatDoor
set_option linter.unusedVariables false
open Num
def dl (z:Int):Nat:=(dec z.natAbs).length
theorem dl_pos (z:Int):0<dl z:=length_dec_pos _
theorem dl_le {z:Int} {k:Nat} (hk:0<k):dl z≤k↔z.natAbs<10 ^ k:=length_dec_le hk
theorem dl_lt (z:Int):z.natAbs<10 ^ dl z:=(dl_le (dl_pos z)).1 (Nat.le_refl _)
theorem dl_mono {x y:Int} (h:x.natAbs≤y.natAbs):dl x≤dl y:=length_dec_mono h
theorem dl_neg (x:Int):dl (-x)=dl x:=by unfold dl;rw [Int.natAbs_neg]
theorem dl_add (x y:Int):dl (x+y)≤max (dl x) (dl y)+1:=by
 have h1:=dl_lt x
 have h2:=dl_lt y
 have h3:10 ^ dl x≤10 ^ max (dl x) (dl y):=Nat.pow_le_pow_right (by omega) (by omega)
 have h4:10 ^ dl y≤10 ^ max (dl x) (dl y):=Nat.pow_le_pow_right (by omega) (by omega)
 refine (dl_le (by omega)).2 ?_
 rw [Nat.pow_succ];omega
theorem dl_sub (x y:Int):dl (x - y)≤max (dl x) (dl y)+1:=by
 have:=dl_add x (-y)
 rwa [dl_neg,← Int.sub_eq_add_neg] at this
theorem dl_mul (x y:Int):dl (x*y)≤dl x+dl y:=by
 have h1:=dl_lt x
 have h2:=dl_lt y
 have h3:=dl_pos x
 refine (dl_le (by omega)).2 ?_
 rw [Int.natAbs_mul,Nat.pow_add]
 rcases Nat.eq_zero_or_pos y.natAbs with h0 | h0
 ·rw [h0,Nat.mul_zero];exact Nat.mul_pos (Nat.pow_pos (by omega)) (Nat.pow_pos (by omega))
 ·exact Nat.lt_of_lt_of_le (Nat.mul_lt_mul_of_pos_right h1 h0) (Nat.mul_le_mul_left _ (Nat.le_of_lt h2))
theorem dl_len (z:Int):(decI z).length≤dl z+1:=mag_length_decI z
theorem dl_of {a:Str} (h:rightI a=true):∃ z,a=decI z∧dl z≤a.length:=by
 refine ⟨valI a,(decI_valI h).symm,?_⟩
 unfold dl;rw [abs_valI,← dec_mag h];exact mag_length a
theorem errI_dec {x y:Int} (hx:dl x≤4096) (hy:dl y≤4096):errI (decI x) (decI y)=0 :=
 errI_zero.2 ⟨rightI_decI x,rightI_decI y,by rw [mag_decI];exact hx,by rw [mag_decI];exact hy⟩
theorem resIS_dec {z:Int} (h:dl z≤4096):resIS z=decI z∧resIE z=0:=⟨if_pos h,if_pos h⟩
end Go.Proofs.YtjcekdiocliddaaGreatDoor

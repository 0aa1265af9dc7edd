/- Texts of rational numbers: plain. -/
import Derived.Test.YtjcekdiocliddaaGreatDoorG1
import Derived.Lib.IndexMore
namespace Go.Proofs.YtjcekdiocliddaaGreatDoor
set_option linter.unusedVariables false
namespace Num
def hasS (s:Str):Bool:=s.any (·== 47)
def preS (s:Str):Str:=s.takeWhile (·!= 47)
def postS (s:Str):Str:=(s.dropWhile (·!= 47)).drop 1
def numT (s:Str):Str:=if hasS s=true then preS s else s
def denT (s:Str):Str:=if hasS s=true then postS s else [49]
def ratS (n:Int) (d:Nat):Str:=if d=1 then decI n else decI n ++ 47 :: dec d
theorem no_slash_dec (d:Nat):∀ c ∈ dec d,c≠47:=by
 intro c hc e
 have:=List.all_eq_true.1 (dec_all d) c hc
 rw [e] at this;exact absurd this (by decide)
theorem no_slash_decI (n:Int):∀ c ∈ decI n,c≠47:=by
 intro c hc
 unfold decI at hc
 by_cases h:n<0
 ·rw [if_pos h] at hc
  rcases List.mem_cons.1 hc with rfl | hc
  ·decide
  ·exact no_slash_dec _ c hc
 ·rw [if_neg h] at hc;exact no_slash_dec _ c hc
theorem hasS_no {s:Str} (h:∀ c ∈ s,c≠47):hasS s=false:=by
 unfold hasS
 rw [List.any_eq_false]
 intro c hc;simpa using h c hc
theorem takeWhile_no {s:Str} (h:∀ c ∈ s,c≠47) (t:Str):(s ++ 47 :: t).takeWhile (·!= 47)=s∧(s ++ 47 :: t).dropWhile (·!= 47)=47 :: t:=by
 induction s with
 |nil=>simp
 |cons c r ih =>
  have hc:=h c (by simp)
  have h2:(c != 47)=true:=by simpa using hc
  have:=ih (fun x hx=>h x (by simp [hx]))
  rw [List.cons_append,List.takeWhile_cons,List.dropWhile_cons,h2]
  simp only [if_true]
  rw [this.1,this.2];exact ⟨rfl,rfl⟩
theorem hasS_mid (s t:Str):hasS (s ++ 47 :: t)=true:=by unfold hasS;simp
theorem split_has {s:Str} (h:hasS s=true):s=preS s ++ 47 :: postS s∧∀ c ∈ preS s,c≠47:=by
 unfold preS postS
 induction s with
 |nil=>simp [hasS] at h
 |cons c r ih =>
  by_cases hc:c=47
  ·subst hc;simp
  ·have h2:(c != 47)=true:=by simpa using hc
   have h3:hasS r=true:=by
    unfold hasS at h ⊢
    rw [List.any_cons] at h
    have:(c == 47)=false:=by simpa using hc
    rw [this,Bool.false_or] at h;exact h
   have ih':=ih h3
   rw [List.takeWhile_cons,List.dropWhile_cons,h2]
   simp only [if_true]
   refine ⟨by rw [List.cons_append,← ih'.1],?_⟩
   intro x hx
   rcases List.mem_cons.1 hx with rfl | hx
   ·exact hc
   ·exact ih'.2 x hx
theorem parts_ratS (n:Int) (d:Nat):numT (ratS n d)=decI n∧denT (ratS n d)=dec d∧hasS (ratS n d)=!decide (d=1):=by
 unfold ratS
 by_cases h:d=1
 ·subst h
  rw [if_pos rfl]
  have h1:=hasS_no (no_slash_decI n)
  unfold numT denT
  rw [h1]
  simp only [Bool.false_eq_true,if_false]
  exact ⟨trivial,(dec_lt (n:=1) (by omega)).symm,by simp⟩
 ·rw [if_neg h]
  have h1:=hasS_mid (decI n) (dec d)
  have h2:=takeWhile_no (no_slash_decI n) (dec d)
  unfold numT denT preS postS
  rw [h1,if_pos rfl,if_pos rfl,h2.1,h2.2]
  exact ⟨rfl,rfl,by simp [h]⟩
theorem ratS_inj {n m:Int} {d e:Nat} (h:ratS n d=ratS m e):n=m∧d=e:=by
 have h1:=parts_ratS n d
 have h2:=parts_ratS m e
 rw [h] at h1
 exact ⟨decI_inj (h1.1.symm.trans h2.1),dec_inj (h1.2.1.symm.trans h2.2.1)⟩
def rightQ (s:Str):Bool:=rightI (numT s) && decide ((mag (numT s)).length≤4096) &&
 (!hasS s || (right (denT s) && decide ((denT s).length≤4096) && !(denT s == [48]) && !(denT s == [49]) && !(numT s == [48]) && decide (Nat.gcd (val (mag (numT s))) (val (denT s))=1)))
theorem dec_eq_zero {n:Nat}:dec n=[48]↔n=0:=⟨fun h=>dec_inj (h.trans dec_zero.symm),fun h=>by rw [h];exact dec_zero⟩
theorem dec_one:dec 1=[49]:=dec_lt (by omega)
theorem dec_eq_one {n:Nat}:dec n=[49]↔n=1:=⟨fun h=>dec_inj (h.trans dec_one.symm),fun h=>by rw [h];exact dec_one⟩
theorem decI_eq_zero {n:Int}:decI n=[48]↔n=0:=⟨fun h=>decI_inj (h.trans decI_zero.symm),fun h=>by rw [h];exact decI_zero⟩
theorem rightQ_ratS {n:Int} {d:Nat} (hd:0<d) (hg:Nat.gcd n.natAbs d=1) (hn:dl n≤4096) (hl:(dec d).length≤4096):rightQ (ratS n d)=true:=by
 have h:=parts_ratS n d
 unfold rightQ
 rw [h.1,h.2.1,h.2.2,rightI_decI,mag_decI,val_dec,val_dec,right_dec]
 have hn':(dec n.natAbs).length≤4096:=hn
 by_cases h1:d=1
 ·simp [h1,hn']
 ·have h2:(dec d == [48])=false:=by
   have:dec d≠[48]:=fun e=>by have:=dec_eq_zero.1 e;omega
   simpa using this
  have h3:(dec d == [49])=false:=by
   have:dec d≠[49]:=fun e=>h1 (dec_eq_one.1 e)
   simpa using this
  have h4:(decI n == [48])=false:=by
   have:decI n≠[48]:=fun e=>by
    have:=decI_eq_zero.1 e
    rw [this] at hg
    simp at hg;exact h1 hg
   simpa using this
  simp [h1,hn',hl,h2,h3,h4];exact hg
theorem rightQ_out {s:Str} (h:rightQ s=true):∃ (n:Int) (d:Nat),0<d∧Nat.gcd n.natAbs d=1∧dl n≤4096∧(dec d).length≤4096∧s=ratS n d:=by
 unfold rightQ at h
 simp only [Bool.and_eq_true,decide_eq_true_eq,Bool.or_eq_true,Bool.not_eq_true'] at h
 obtain ⟨⟨h1,h2⟩,h3⟩:=h
 have hdl:dl (valI (numT s))≤4096:=by
  unfold dl;rw [abs_valI,← dec_mag h1];exact h2
 rcases h3 with h3 | ⟨⟨⟨⟨⟨h3,h4⟩,h5⟩,h6⟩,h7⟩,h8⟩
 ·refine ⟨valI (numT s),1,by omega,Nat.gcd_one_right _,hdl,by rw [dec_one];decide,?_⟩
  unfold ratS
  rw [if_pos rfl,decI_valI h1]
  unfold numT;rw [h3];rfl
 ·have hv:dec (val (denT s))=denT s:=dec_val h3
  have hd0:val (denT s)≠0:=by
   intro e
   rw [e,dec_zero] at hv
   rw [← hv] at h5;simp at h5
  have hd1:val (denT s)≠1:=by
   intro e
   rw [e,dec_one] at hv
   rw [← hv] at h6;simp at h6
  refine ⟨valI (numT s),val (denT s),by omega,by rw [abs_valI];exact h8,hdl,by rw [hv];exact h4,?_⟩
  unfold ratS
  rw [if_neg hd1,decI_valI h1,hv]
  by_cases hs:hasS s=true
  ·have:=(split_has hs).1
   unfold numT denT
   rw [if_pos hs,if_pos hs];exact this
  ·have:denT s=[49]:=if_neg hs
   rw [this] at h6;simp at h6
def lowS (n:Int) (m:Nat):Str:=ratS (n / (Nat.gcd n.natAbs m:Nat)) (m / Nat.gcd n.natAbs m)
theorem low_parts (n:Int) {m:Nat} (hm:0<m):∃ (a:Int) (b g:Nat),0<b∧0<g∧Nat.gcd a.natAbs b=1∧n=a*g∧m=b*g∧lowS n m=ratS a b∧a.natAbs≤n.natAbs∧b≤m:=by
 have hg:0<Nat.gcd n.natAbs m:=Nat.gcd_pos_of_pos_right _ hm
 obtain ⟨b,hb⟩:=Nat.gcd_dvd_right n.natAbs m
 obtain ⟨c,hc⟩:=Nat.gcd_dvd_left n.natAbs m
 generalize hgg:Nat.gcd n.natAbs m=g at *
 have hdv:(g:Int) ∣ n:=Int.ofNat_dvd_left.2 ⟨c,hc⟩
 obtain ⟨a,ha⟩:=hdv
 have ha2:n / (g:Int)=a:=by rw [ha];exact Int.mul_ediv_cancel_left _ (by omega)
 have hb2:m / g=b:=by rw [hb];exact Nat.mul_div_cancel_left _ hg
 have hac:a.natAbs=c:=by
  have h1:=congrArg Int.natAbs ha
  rw [Int.natAbs_mul,Int.natAbs_natCast,hc] at h1
  exact (Nat.eq_of_mul_eq_mul_left hg h1).symm
 have hb0:0<b:=by
  rcases Nat.eq_zero_or_pos b with h | h
  ·rw [h,Nat.mul_zero] at hb;omega
  ·exact h
 have hcop:Nat.gcd a.natAbs b=1:=by
  have h1:Nat.gcd (g*c) (g*b)=g*Nat.gcd c b:=Nat.gcd_mul_left g c b
  rw [← hc,← hb,hgg] at h1
  rw [hac]
  have h2:g*1=g*Nat.gcd c b:=by rw [Nat.mul_one];exact h1
  exact (Nat.eq_of_mul_eq_mul_left hg h2).symm
 refine ⟨a,b,g,hb0,hg,hcop,by rw [ha,Int.mul_comm],by rw [hb,Nat.mul_comm],?_,?_,?_⟩
 ·unfold lowS;rw [hgg,ha2,hb2]
 ·rw [hac,hc];exact Nat.le_mul_of_pos_left _ hg
 ·rw [hb];exact Nat.le_mul_of_pos_left _ hg
theorem low_red {n:Int} {d:Nat} (hg:Nat.gcd n.natAbs d=1):lowS n d=ratS n d:=by
 unfold lowS;rw [hg];simp
theorem red_unique {a c:Int} {b d:Nat} (hb:0<b) (hd:0<d) (h1:Nat.gcd a.natAbs b=1) (h2:Nat.gcd c.natAbs d=1) (h:a*d=c*b):a=c∧b=d:=by
 have hn:a.natAbs*d=c.natAbs*b:=by
  have:=congrArg Int.natAbs h
  rwa [Int.natAbs_mul,Int.natAbs_mul,Int.natAbs_natCast,Int.natAbs_natCast] at this
 have hbd:b ∣ d:=by
  have h3:b ∣ a.natAbs*d:=⟨c.natAbs,by rw [hn,Nat.mul_comm]⟩
  exact Nat.Coprime.dvd_of_dvd_mul_left (Nat.coprime_comm.1 h1) h3
 have hdb:d ∣ b:=by
  have h3:d ∣ c.natAbs*b:=⟨a.natAbs,by rw [← hn,Nat.mul_comm]⟩
  exact Nat.Coprime.dvd_of_dvd_mul_left (Nat.coprime_comm.1 h2) h3
 have e:b=d:=Nat.dvd_antisymm hbd hdb
 subst e
 exact ⟨Int.eq_of_mul_eq_mul_right (by omega) h,rfl⟩
theorem lowS_eq {n n':Int} {m m':Nat} (hm:0<m) (hm':0<m') (h:n*m'=n' * m):lowS n m=lowS n' m':=by
 obtain ⟨a,b,g,hb,hg,hc,e1,e2,e3,_,_⟩:=low_parts n hm
 obtain ⟨a',b',g',hb',hg',hc',e1',e2',e3',_,_⟩:=low_parts n' hm'
 rw [e3,e3']
 have hx:a*b'=a' * b:=by
  subst e1 e1' e2 e2'
  have h2:(a*b')*((g:Int)*g')=(a' * b)*((g:Int)*g'):=by
   simp only [Int.natCast_mul] at h
   grind
  exact Int.eq_of_mul_eq_mul_right (by
   have:0<(g:Int)*g':=Int.mul_pos (by omega) (by omega)
   omega) h2
 have:=red_unique hb hb' hc hc' hx
 rw [this.1,this.2]
end Num
end Go.Proofs.YtjcekdiocliddaaGreatDoor
namespace Go.Proofs.YtjcekdiocliddaaGreatDoor
set_option linter.unusedVariables false
namespace Num
theorem ordI_swap (x y:Int):ordI y x = -(ordI x y):=by unfold ordI;split <;> split <;> omega
theorem ordI_sub (x y z:Int) (h:x - y=z):ordI x y=ordI z 0:=by unfold ordI;split <;> split <;> (try split) <;> (try split) <;> omega
theorem eu_less {p r q s:Int} (hq:0<q) (hs:0<s) (h:p / q<r / s):ordI (p*s) (r*q) = -1:=by
 have h1:=Int.mul_ediv_add_emod p q
 have h2:=Int.emod_lt_of_pos p hq
 have h3:=Int.mul_ediv_add_emod r s
 have h4:=Int.emod_nonneg r (show s≠0 by omega)
 generalize p / q=f at *
 generalize r / s=g at *
 generalize p % q=x at *
 generalize r % s=y at *
 have h5:q*s*(f+1)≤q*s*g:=Int.mul_le_mul_of_nonneg_left (by omega) (Int.le_of_lt (Int.mul_pos hq hs))
 have h6:x*s<q*s:=Int.mul_lt_mul_of_pos_right h2 hs
 have h7:0≤y*q:=Int.mul_nonneg h4 (Int.le_of_lt hq)
 have e1:p*s=q*s*f+x*s:=by rw [← h1];grind
 have e2:r*q=q*s*g+y*q:=by rw [← h3];grind
 rw [Int.mul_add,Int.mul_one] at h5
 unfold ordI;rw [if_pos (by omega)]
theorem eu_more {p r q s:Int} (hq:0<q) (hs:0<s) (h:r / s<p / q):ordI (p*s) (r*q)=1:=by
 rw [ordI_swap,eu_less hs hq h];rfl
theorem eu_same {p r q s:Int} (hq:0<q) (hs:0<s) (h:p / q=r / s):ordI (p*s) (r*q)=ordI (p % q*s) (r % s*q):=by
 have h1:=Int.mul_ediv_add_emod p q
 have h3:=Int.mul_ediv_add_emod r s
 rw [← h] at h3
 generalize p / q=f at *
 generalize p % q=x at *
 generalize r % s=y at *
 have e1:p*s=q*s*f+x*s:=by rw [← h1];grind
 have e2:r*q=q*s*f+y*q:=by rw [← h3];grind
 rw [e1,e2]
 unfold ordI
 split <;> split <;> (try split) <;> (try split) <;> omega
theorem eu_zz {q s:Int}:ordI (0*s) (0*q)=0:=by rw [Int.zero_mul,Int.zero_mul];rfl
theorem eu_zp {q s y:Int} (hq:0<q) (hy:0<y):ordI (0*s) (y*q) = -1:=by
 have:=Int.mul_pos hy hq
 rw [Int.zero_mul];unfold ordI;rw [if_pos this]
theorem eu_pz {q s x:Int} (hs:0<s) (hx:0<x):ordI (x*s) (0*q)=1:=by
 have:=Int.mul_pos hx hs
 rw [Int.zero_mul];unfold ordI;rw [if_neg (by omega),if_pos this]
theorem eu_turn {q s x y:Int}:ordI (x*s) (y*q) = -(ordI (q*y) (s*x)):=by
 rw [ordI_swap (y*q) (x*s),Int.mul_comm y q,Int.mul_comm x s]
theorem qI_pos {x y:Int} (hy:0<y):qI x y=x / y∧rI x y=x % y:=by
 have hq:qI x y=x / y:=if_neg (by omega)
 refine ⟨hq,?_⟩
 unfold rI
 rw [hq];have:=Int.mul_ediv_add_emod x y;omega
def qn (s:Str):Int:=valI (numT s)
def qd (s:Str):Nat:=val (denT s)
theorem qn_ratS (n:Int) (d:Nat):qn (ratS n d)=n:=by unfold qn;rw [(parts_ratS n d).1,valI_decI]
theorem qd_ratS (n:Int) (d:Nat):qd (ratS n d)=d:=by unfold qd;rw [(parts_ratS n d).2.1,val_dec]
def quoS (x y:Int):Str:=if y<0 then lowS (-x) y.natAbs else lowS x y.natAbs
def errQ (a b:Str):Int:=if rightQ a=true∧rightQ b=true then 0 else 3
def sumOK (x y z:Int) (m:Int):Prop:=dl x≤4096∧dl y≤4096∧dl z≤4096∧dl m≤4096
instance (x y z m:Int):Decidable (sumOK x y z m):=by unfold sumOK;infer_instance
def addQE (a b:Str):Int:=if errQ a b=0 then (if sumOK (qn a*qd b) (qn b*qd a) (qn a*qd b+qn b*qd a) ((qd a:Int)*qd b) then 0 else 4) else 3
def addQS (a b:Str):Str:=if addQE a b=0 then lowS (qn a*qd b+qn b*qd a) (qd a*qd b) else []
def subQE (a b:Str):Int:=if errQ a b=0 then (if sumOK (qn a*qd b) (qn b*qd a) (qn a*qd b - qn b*qd a) ((qd a:Int)*qd b) then 0 else 4) else 3
def subQS (a b:Str):Str:=if subQE a b=0 then lowS (qn a*qd b - qn b*qd a) (qd a*qd b) else []
def mulQE (a b:Str):Int:=if errQ a b=0 then (if dl (qn a*qn b)≤4096∧dl ((qd a:Int)*qd b)≤4096 then 0 else 4) else 3
def mulQS (a b:Str):Str:=if mulQE a b=0 then lowS (qn a*qn b) (qd a*qd b) else []
def quoQE (a b:Str):Int:=if errQ a b=0 then (if qn b=0 then 10 else if dl (qn a*qd b)≤4096∧dl ((qd a:Int)*qn b)≤4096 then 0 else 4) else 3
def quoQS (a b:Str):Str:=if quoQE a b=0 then quoS (qn a*qd b) ((qd a:Int)*qn b) else []
def cmpQ (a b:Str):Int:=if errQ a b=0 then ordI (qn a*qd b) (qn b*qd a) else 0
def signQ (a:Str):Int:=if rightQ a=true then ordI (qn a) 0 else 0
def floorQ (a:Str):Str:=if rightQ a=true then decI (qn a / qd a) else []
def ceilQ (a:Str):Str:=if rightQ a=true then decI (-(-(qn a) / qd a)) else []
def rightE (a:Str):Int:=if rightQ a=true then 0 else 3
def makeE (a b:Str):Int:=if rightI a=true∧rightI b=true then (if (mag a).length≤4096∧(mag b).length≤4096 then (if valI b=0 then 10 else 0) else 4) else 3
def makeS (a b:Str):Str:=if makeE a b=0 then quoS (valI a) (valI b) else []
end Num
end Go.Proofs.YtjcekdiocliddaaGreatDoor
namespace Go.Proofs.YtjcekdiocliddaaGreatDoor
namespace Num
set_option linter.unusedVariables false
theorem index_slash (s:Str):Lib.index s [47]=if hasS s=true then ((preS s).length:Int) else -1:=by
 induction s with
 |nil=>rfl
 |cons c r ih =>
  rw [Lib.index]
  by_cases hc:c=47
  ·subst hc
   have h1:hasS (47 :: r)=true:=by unfold hasS;simp
   have h2:preS (47 :: r)=[]:=by unfold preS;simp
   rw [h1,h2];rfl
  ·have hp:([47]:Str).isPrefixOf (c :: r)=false:=by
    have h1:((47:UInt8) == c)=false:=by simpa using fun e:(47:UInt8)=c=>hc e.symm
    show ((47:UInt8) == c && _)=false
    rw [h1];rfl
   have hh:hasS (c :: r)=hasS r:=by
    unfold hasS;rw [List.any_cons]
    have:(c == 47)=false:=by simpa using hc
    rw [this,Bool.false_or]
   have h2:(c != 47)=true:=by simpa using hc
   have hpre:preS (c :: r)=c :: preS r:=by unfold preS;rw [List.takeWhile_cons,h2];rfl
   rw [hp,ih,hh,hpre]
   by_cases h3:hasS r=true
   ·rw [if_pos h3,if_pos h3]
    have h4:(((preS r).length:Int) == -1)=false:=by rw [beq_eq_false_iff_ne];omega
    simp [h4]
   ·rw [if_neg h3,if_neg h3];rfl
theorem contains_slash (s:Str):Lib.contains s [47]=hasS s:=by
 unfold Lib.contains
 rw [index_slash]
 by_cases h:hasS s=true
 ·rw [if_pos h,h];simp
 ·rw [if_neg h];simp at h;rw [h];rfl
theorem cut_slash (s:Str):Lib.cut s [47]=if hasS s=true then (preS s,postS s,true) else (s,[],false):=by
 unfold Lib.cut
 rw [index_slash]
 by_cases h:hasS s=true
 ·rw [if_pos h,if_pos h,if_pos (Int.natCast_nonneg _)]
  have hs:=(split_has h).1
  have e:∀ a b:Str,(a ++ 47 :: b).take a.length=a∧(a ++ 47 :: b).drop (a.length+1)=b:=by
   intro a b
   refine ⟨List.take_left,?_⟩
   rw [List.drop_append,List.drop_of_length_le (by omega),show a.length+1 - a.length=1 by omega];rfl
  have h12:=e (preS s) (postS s)
  rw [← hs] at h12
  obtain ⟨h1,h2⟩:=h12
  rw [Int.toNat_natCast,show ([47]:Str).length=1 from rfl,h1,h2]
 ·rw [if_neg h,if_neg h,if_neg (show ¬ (0:Int) ≤ -1 by decide)]
end Num
end Go.Proofs.YtjcekdiocliddaaGreatDoor
namespace Go.Proofs.YtjcekdiocliddaaGreatDoor
namespace Num
set_option linter.unusedVariables false
theorem low_read (p:Int) {q:Nat} (hq:0<q):∃ g:Nat,0<g∧p=qn (lowS p q)*g∧q=qd (lowS p q)*g∧0<qd (lowS p q)∧Nat.gcd (qn (lowS p q)).natAbs (qd (lowS p q))=1∧lowS p q=ratS (qn (lowS p q)) (qd (lowS p q)) ∧
  (qn (lowS p q)).natAbs≤p.natAbs∧qd (lowS p q)≤q:=by
 obtain ⟨a,b,g,hb,hg,hc,e1,e2,e3,h4,h5⟩:=low_parts p hq
 rw [e3,qn_ratS,qd_ratS]
 exact ⟨g,hg,e1,e2,hb,hc,rfl,h4,h5⟩
theorem dl_nat (q:Nat):dl (q:Int)=(dec q).length:=by unfold dl;rw [Int.natAbs_natCast]
theorem right_low {p:Int} {q:Nat} (hq:0<q) (h1:dl p≤4096) (h2:dl (q:Int)≤4096):rightQ (lowS p q)=true:=by
 obtain ⟨g,hg,e1,e2,h3,h4,h5,h6,h7⟩:=low_read p hq
 rw [h5]
 refine rightQ_ratS h3 h4 (Nat.le_trans (dl_mono h6) h1) ?_
 rw [← dl_nat]
 exact Nat.le_trans (dl_mono (by rw [Int.natAbs_natCast,Int.natAbs_natCast];exact h7)) h2
theorem ratS_low {n:Int} {d:Nat} (hg:Nat.gcd n.natAbs d=1):ratS n d=lowS n d:=(low_red hg).symm
section
variable {p p':Int} {q q':Nat} (hq:0<q) (hq':0<q')
include hq hq'
theorem add_low:lowS (qn (lowS p q)*qd (lowS p' q')+qn (lowS p' q')*qd (lowS p q)) (qd (lowS p q)*qd (lowS p' q'))=lowS (p*q' + p' * q) (q*q'):=by
 obtain ⟨g,hg,e1,e2,h3,_⟩:=low_read p hq
 obtain ⟨g',hg',e1',e2',h3',_⟩:=low_read p' hq'
 generalize qn (lowS p q)=a at *
 generalize qd (lowS p q)=b at *
 generalize qn (lowS p' q')=a' at *
 generalize qd (lowS p' q')=b' at *
 refine lowS_eq (Nat.mul_pos h3 h3') (Nat.mul_pos hq hq') ?_
 subst e1 e1' e2 e2'
 simp only [Int.natCast_mul]
 grind
theorem sub_low:lowS (qn (lowS p q)*qd (lowS p' q') - qn (lowS p' q')*qd (lowS p q)) (qd (lowS p q)*qd (lowS p' q'))=lowS (p*q' - p' * q) (q*q'):=by
 obtain ⟨g,hg,e1,e2,h3,_⟩:=low_read p hq
 obtain ⟨g',hg',e1',e2',h3',_⟩:=low_read p' hq'
 generalize qn (lowS p q)=a at *
 generalize qd (lowS p q)=b at *
 generalize qn (lowS p' q')=a' at *
 generalize qd (lowS p' q')=b' at *
 refine lowS_eq (Nat.mul_pos h3 h3') (Nat.mul_pos hq hq') ?_
 subst e1 e1' e2 e2'
 simp only [Int.natCast_mul]
 grind
theorem mul_low:lowS (qn (lowS p q)*qn (lowS p' q')) (qd (lowS p q)*qd (lowS p' q'))=lowS (p*p') (q*q'):=by
 obtain ⟨g,hg,e1,e2,h3,_⟩:=low_read p hq
 obtain ⟨g',hg',e1',e2',h3',_⟩:=low_read p' hq'
 generalize qn (lowS p q)=a at *
 generalize qd (lowS p q)=b at *
 generalize qn (lowS p' q')=a' at *
 generalize qd (lowS p' q')=b' at *
 refine lowS_eq (Nat.mul_pos h3 h3') (Nat.mul_pos hq hq') ?_
 subst e1 e1' e2 e2'
 simp only [Int.natCast_mul]
 grind
end
theorem quoS_eq {x y x' y':Int} (hy:y≠0) (hy':y'≠0) (h:x*y'=x' * y):quoS x y=quoS x' y':=by
 unfold quoS
 have c:∀ z:Int,z≠0→0<z.natAbs:=fun z hz=>by omega
 have e:∀ z:Int,z<0→((z.natAbs:Nat):Int) = -z:=fun z hz=>by omega
 have e':∀ z:Int,¬ z<0→((z.natAbs:Nat):Int)=z:=fun z hz=>by omega
 by_cases h1:y<0 <;> by_cases h2:y' < 0
 ·rw [if_pos h1,if_pos h2];refine lowS_eq (c y hy) (c y' hy') ?_;rw [e y h1,e y' h2];grind
 ·rw [if_pos h1,if_neg h2];refine lowS_eq (c y hy) (c y' hy') ?_;rw [e y h1,e' y' h2];grind
 ·rw [if_neg h1,if_pos h2];refine lowS_eq (c y hy) (c y' hy') ?_;rw [e' y h1,e y' h2];grind
 ·rw [if_neg h1,if_neg h2];refine lowS_eq (c y hy) (c y' hy') ?_;rw [e' y h1,e' y' h2];exact h
theorem quoS_pos {x:Int} {q:Nat} (hq:0<q):quoS x (q:Int)=lowS x q:=by
 unfold quoS;rw [if_neg (by omega),Int.natAbs_natCast]
theorem errQ_zero {a b:Str}:errQ a b=0↔rightQ a=true∧rightQ b=true:=by
 unfold errQ
 by_cases h:rightQ a=true∧rightQ b=true
 ·rw [if_pos h];simp [h]
 ·rw [if_neg h];simp;intro h1;cases h2:rightQ b with
  |false=>rfl
  |true=>exact absurd ⟨h1,h2⟩ h
end Num
end Go.Proofs.YtjcekdiocliddaaGreatDoor
namespace Go.Proofs.YtjcekdiocliddaaGreatDoor
namespace Num
set_option linter.unusedVariables false
theorem quoS_neg {x:Int} {y:Int} (hy:y≠0):∃ p:Int,∃ q:Nat,0<q∧quoS x y=lowS p q∧p*y=x*q∧dl p=dl x∧dl (q:Int)=dl y:=by
 unfold quoS
 by_cases h:y<0
 ·rw [if_pos h]
  refine ⟨-x,y.natAbs,by omega,rfl,?_,dl_neg x,?_⟩
  ·rw [show ((y.natAbs:Nat):Int) = -y by omega];grind
  ·unfold dl;rw [Int.natAbs_natCast]
 ·rw [if_neg h]
  refine ⟨x,y.natAbs,by omega,rfl,?_,rfl,?_⟩
  ·rw [show ((y.natAbs:Nat):Int)=y by omega]
  ·unfold dl;rw [Int.natAbs_natCast]
def Fr (k:Nat) (p:Int) (q:Nat):Prop:=0<q∧dl p≤k∧dl (q:Int)≤k
theorem Fr.low {k:Nat} {p:Int} {q:Nat} (h:Fr k p q):dl (qn (lowS p q))≤k∧dl ((qd (lowS p q):Nat):Int)≤k:=by
 obtain ⟨g,hg,e1,e2,h3,h4,h5,h6,h7⟩:=low_read p h.1
 exact ⟨Nat.le_trans (dl_mono h6) h.2.1,Nat.le_trans (dl_mono (by rw [Int.natAbs_natCast,Int.natAbs_natCast];exact h7)) h.2.2⟩
theorem Fr.right {k:Nat} {p:Int} {q:Nat} (h:Fr k p q) (hk:k≤4096):rightQ (lowS p q)=true:=right_low h.1 (by have:=h.2.1;omega) (by have:=h.2.2;omega)
theorem Fr.mul {k m:Nat} {p p':Int} {q q':Nat} (h:Fr k p q) (h':Fr m p' q'):Fr (k+m) (p*p') (q*q') :=
 ⟨Nat.mul_pos h.1 h'.1,by have:=dl_mul p p';have:=h.2.1;have:=h'.2.1;omega,by rw [Int.natCast_mul];have:=dl_mul (q:Int) q';have:=h.2.2;have:=h'.2.2;omega⟩
theorem Fr.add {k m:Nat} {p p':Int} {q q':Nat} (h:Fr k p q) (h':Fr m p' q'):Fr (k+m+1) (p*q' + p' * q) (q*q') :=
 ⟨Nat.mul_pos h.1 h'.1,by have:=dl_add (p*q') (p' * q);have:=dl_mul p q';have:=dl_mul p' q;have:=h.2.1;have:=h.2.2;have:=h'.2.1;have:=h'.2.2;omega,by rw [Int.natCast_mul];have:=dl_mul (q:Int) q';have:=h.2.2;have:=h'.2.2;omega⟩
theorem Fr.sub {k m:Nat} {p p':Int} {q q':Nat} (h:Fr k p q) (h':Fr m p' q'):Fr (k+m+1) (p*q' - p' * q) (q*q') :=
 ⟨Nat.mul_pos h.1 h'.1,by have:=dl_sub (p*q') (p' * q);have:=dl_mul p q';have:=dl_mul p' q;have:=h.2.1;have:=h.2.2;have:=h'.2.1;have:=h'.2.2;omega,by rw [Int.natCast_mul];have:=dl_mul (q:Int) q';have:=h.2.2;have:=h'.2.2;omega⟩
theorem Fr.mono {k m:Nat} {p:Int} {q:Nat} (h:Fr k p q) (hk:k≤m):Fr m p q:=⟨h.1,Nat.le_trans h.2.1 hk,Nat.le_trans h.2.2 hk⟩
section
variable {k m:Nat} {p p':Int} {q q':Nat} (h:Fr k p q) (h':Fr m p' q') (hk:k+m+1≤4096)
include h h' hk
theorem err_low:errQ (lowS p q) (lowS p' q')=0:=errQ_zero.2 ⟨h.right (by omega),h'.right (by omega)⟩
theorem addQ_low:addQE (lowS p q) (lowS p' q')=0∧addQS (lowS p q) (lowS p' q')=lowS (p*q' + p' * q) (q*q'):=by
 have e:=err_low h h' hk
 have b:=h.low
 have b':=h'.low
 have e2:addQE (lowS p q) (lowS p' q')=0:=by
  unfold addQE
  rw [if_pos e]
  refine if_pos ?_
  unfold sumOK
  generalize qn (lowS p q)=a at *
  generalize qd (lowS p q)=d at *
  generalize qn (lowS p' q')=a' at *
  generalize qd (lowS p' q')=d' at *
  have h1:=dl_mul a d'
  have h2:=dl_mul a' d
  have h3:=dl_mul (d:Int) d'
  have h4:=dl_add (a*d') (a' * d)
  exact ⟨by omega,by omega,by omega,by omega⟩
 refine ⟨e2,?_⟩
 unfold addQS
 rw [if_pos e2]
 exact add_low h.1 h'.1
theorem subQ_low:subQE (lowS p q) (lowS p' q')=0∧subQS (lowS p q) (lowS p' q')=lowS (p*q' - p' * q) (q*q'):=by
 have e:=err_low h h' hk
 have b:=h.low
 have b':=h'.low
 have e2:subQE (lowS p q) (lowS p' q')=0:=by
  unfold subQE
  rw [if_pos e]
  refine if_pos ?_
  unfold sumOK
  generalize qn (lowS p q)=a at *
  generalize qd (lowS p q)=d at *
  generalize qn (lowS p' q')=a' at *
  generalize qd (lowS p' q')=d' at *
  have h1:=dl_mul a d'
  have h2:=dl_mul a' d
  have h3:=dl_mul (d:Int) d'
  have h4:=dl_sub (a*d') (a' * d)
  exact ⟨by omega,by omega,by omega,by omega⟩
 refine ⟨e2,?_⟩
 unfold subQS
 rw [if_pos e2]
 exact sub_low h.1 h'.1
theorem mulQ_low:mulQE (lowS p q) (lowS p' q')=0∧mulQS (lowS p q) (lowS p' q')=lowS (p*p') (q*q'):=by
 have e:=err_low h h' hk
 have b:=h.low
 have b':=h'.low
 have e2:mulQE (lowS p q) (lowS p' q')=0:=by
  unfold mulQE
  rw [if_pos e]
  refine if_pos ?_
  generalize qn (lowS p q)=a at *
  generalize qd (lowS p q)=d at *
  generalize qn (lowS p' q')=a' at *
  generalize qd (lowS p' q')=d' at *
  have h1:=dl_mul a a'
  have h3:=dl_mul (d:Int) d'
  exact ⟨by omega,by omega⟩
 refine ⟨e2,?_⟩
 unfold mulQS
 rw [if_pos e2]
 exact mul_low h.1 h'.1
theorem quoQ_low (h0:p'≠0):quoQE (lowS p q) (lowS p' q')=0∧quoQS (lowS p q) (lowS p' q')=quoS (p*q') (q*p'):=by
 have e:=err_low h h' hk
 have b:=h.low
 have b':=h'.low
 obtain ⟨g,hg,e1,e2,h3,_⟩:=low_read p h.1
 obtain ⟨g',hg',e1',e2',h3',_⟩:=low_read p' h'.1
 have hz:qn (lowS p' q')≠0:=by intro hz;apply h0;rw [e1',hz,Int.zero_mul]
 have e3:quoQE (lowS p q) (lowS p' q')=0:=by
  unfold quoQE
  rw [if_pos e,if_neg hz]
  refine if_pos ?_
  generalize qn (lowS p q)=a at *
  generalize qd (lowS p q)=d at *
  generalize qn (lowS p' q')=a' at *
  generalize qd (lowS p' q')=d' at *
  have h1:=dl_mul a d'
  have h3:=dl_mul (d:Int) a'
  exact ⟨by omega,by omega⟩
 refine ⟨e3,?_⟩
 unfold quoQS
 rw [if_pos e3]
 have hq0:(q:Int)≠0:=by have:=h.1;omega
 have hd0:((qd (lowS p q):Nat):Int)≠0:=by omega
 refine quoS_eq (Int.mul_ne_zero hd0 hz) (Int.mul_ne_zero hq0 h0) ?_
 clear hq0 hd0 e3 e b b' h h' hz h0
 generalize qn (lowS p q)=a at *
 generalize qd (lowS p q)=d at *
 generalize qn (lowS p' q')=a' at *
 generalize qd (lowS p' q')=d' at *
 subst e1 e1' e2' e2
 simp only [Int.natCast_mul]
 grind
theorem quoQ_zero (h0:p'=0):quoQE (lowS p q) (lowS p' q')=10∧quoQS (lowS p q) (lowS p' q')=[]:=by
 have e:=err_low h h' hk
 obtain ⟨g',hg',e1',e2',h3',_⟩:=low_read p' h'.1
 have hz:qn (lowS p' q')=0:=by
  rw [h0] at e1' ⊢
  rcases Int.mul_eq_zero.1 e1'.symm with h | h
  ·exact h
  ·exact absurd h (by omega)
 have e2:quoQE (lowS p q) (lowS p' q')=10:=by unfold quoQE;rw [if_pos e,if_pos hz]
 refine ⟨e2,?_⟩
 unfold quoQS
 rw [e2];rfl
theorem cmpQ_low:cmpQ (lowS p q) (lowS p' q')=ordI (p*q') (p' * q):=by
 have e:=err_low h h' hk
 obtain ⟨g,hg,e1,e2,h3,_⟩:=low_read p h.1
 obtain ⟨g',hg',e1',e2',h3',_⟩:=low_read p' h'.1
 unfold cmpQ
 rw [if_pos e]
 clear e h h' hk
 generalize qn (lowS p q)=a at *
 generalize qd (lowS p q)=d at *
 generalize qn (lowS p' q')=a' at *
 generalize qd (lowS p' q')=d' at *
 subst e1 e2 e1' e2'
 simp only [Int.natCast_mul]
 have hG:(0:Int)<(g:Int)*g':=Int.mul_pos (by omega) (by omega)
 rw [show a*(g:Int)*((d':Int)*g')=a*d' * (g*g') by grind,show a' * (g':Int)*((d:Int)*g)=a' * d*(g*g') by grind]
 generalize (g:Int)*g'=c at hG
 unfold ordI
 by_cases hl:a*d' < a' * d
 ·rw [if_pos hl,if_pos (Int.mul_lt_mul_of_pos_right hl hG)]
 ·rw [if_neg hl,if_neg (fun hc=>hl (Int.lt_of_mul_lt_mul_right hc (by omega)))]
  by_cases hg2:a' * d<a*d'
  ·rw [if_pos hg2,if_pos (Int.mul_lt_mul_of_pos_right hg2 hG)]
  ·rw [if_neg hg2,if_neg (fun hc=>hg2 (Int.lt_of_mul_lt_mul_right hc (by omega)))]
end
theorem dl_one:dl 1=1:=by unfold dl;rw [show (1:Int).natAbs=1 from rfl,dec_one];rfl
theorem Fr.int {k:Nat} {n:Int} (hk:1≤k) (h:dl n≤k):Fr k n 1:=⟨by omega,h,by rw [show ((1:Nat):Int)=1 from rfl,dl_one];exact hk⟩
theorem low_int (n:Int):lowS n 1=decI n:=by
 rw [low_red (by simp)];unfold ratS;exact if_pos rfl
theorem signQ_low {k:Nat} {p:Int} {q:Nat} (h:Fr k p q) (hk:k≤4096):signQ (lowS p q)=ordI p 0:=by
 obtain ⟨g,hg,e1,e2,h3,_⟩:=low_read p h.1
 unfold signQ
 rw [if_pos (h.right hk)]
 clear h
 generalize qn (lowS p q)=a at *
 subst e1
 have hG:(0:Int)<(g:Int):=by omega
 generalize (g:Int)=c at hG
 clear e2 h3 hk
 show ordI a 0=ordI (a*c) 0
 unfold ordI
 by_cases hl:a<0
 ·rw [if_pos hl,if_pos (by have:=Int.mul_lt_mul_of_pos_right hl hG;omega)]
 ·rw [if_neg hl,if_neg (Int.not_lt.2 (Int.mul_nonneg (show 0≤a by omega) (show 0≤c by omega)))]
  by_cases hg2:0<a
  ·rw [if_pos hg2,if_pos (Int.mul_pos hg2 hG)]
  ·rw [if_neg hg2,if_neg (by rw [show a=0 by omega,Int.zero_mul];omega)]
theorem fr_right {s:Str} (h:rightQ s=true):s=lowS (qn s) (qd s)∧Nat.gcd (qn s).natAbs (qd s)=1∧0<qd s∧s=ratS (qn s) (qd s)∧dl (qn s)≤s.length∧dl ((qd s:Nat):Int)≤s.length:=by
 obtain ⟨n,d,h1,h2,h3,h4,rfl⟩:=rightQ_out h
 rw [qn_ratS,qd_ratS]
 refine ⟨(low_red h2).symm,h2,h1,rfl,?_,?_⟩
 ·have:dl n≤(decI n).length:=by
   have:=congrArg List.length (mag_decI n);have h9:=mag_length (decI n);unfold dl;omega
  unfold ratS
  split
  ·exact this
  ·rw [List.length_append,List.length_cons];omega
 ·rw [dl_nat]
  unfold ratS
  split
  ·rename_i h;subst h;rw [dec_one];have:=dl_pos n;have h9:=mag_length (decI n);have h8:=congrArg List.length (mag_decI n);unfold dl at this;show 1≤(decI n).length;omega
  ·rw [List.length_append,List.length_cons];omega
theorem fr_of {s:Str} {k:Nat} (h:rightQ s=true) (hl:s.length≤k):Fr k (qn s) (qd s):=by
 have:=fr_right h
 exact ⟨this.2.2.1,by omega,by omega⟩
theorem zero_iff {s:Str} (h:rightQ s=true):s=[48]↔qn s=0:=by
 have:=fr_right h
 constructor
 ·intro e;rw [e];decide
 ·intro e
  have h2:=this.2.1
  rw [e] at h2
  rw [this.2.2.2.1,e]
  have:qd s=1:=by simpa using h2
  rw [this];unfold ratS;rw [if_pos rfl];exact decI_zero
end Num
end Go.Proofs.YtjcekdiocliddaaGreatDoor
namespace Go.Proofs.YtjcekdiocliddaaGreatDoor
namespace Num
set_option linter.unusedVariables false
def negT (b:Str):Str:=if neg? b=true then b.drop 1 else 45 :: b
theorem ratS_neg {n:Nat} (hn:0<n) (d:Nat):ratS (-(n:Int)) d=45 :: ratS (n:Int) d:=by
 unfold ratS
 rw [decI_neg hn,decI_nat]
 split <;> rfl
theorem neg?_dec (n:Nat) (t:Str):neg? (dec n ++ t)=false:=by
 have hp:=length_dec_pos n
 have hd:=right_all (right_dec n)
 generalize dec n=l at *
 match l,hp with
 |x :: l,_ =>
  have hx:isDig x=true:=by simpa using (List.all_eq_true.1 hd x (by simp))
  by_cases h:x=45
  ·subst h;exact absurd hx (by decide)
  ·unfold neg?;simp [h]
theorem negT_right {b:Str} (rb:rightQ b=true) (hb:b≠[48]):rightQ (negT b)=true∧qn (negT b) = -(qn b)∧qd (negT b)=qd b:=by
 obtain ⟨n,d,h1,h2,h3,h4,rfl⟩:=rightQ_out rb
 have hn0:n≠0:=by
  intro h;apply hb;subst h
  have hd:d=1:=by simpa using h2
  rw [hd];unfold ratS;rw [if_pos rfl];exact decI_zero
 have key:negT (ratS n d)=ratS (-n) d:=by
  by_cases hn:n<0
  ·obtain ⟨m,rfl⟩:∃ m:Nat,n = -(m:Int):=⟨n.natAbs,by omega⟩
   rw [ratS_neg (by omega),Int.neg_neg]
   unfold negT
   rw [if_pos (by rfl)];rfl
  ·obtain ⟨m,rfl⟩:∃ m:Nat,n=(m:Int):=⟨n.toNat,by omega⟩
   rw [ratS_neg (by omega)]
   unfold negT
   rw [if_neg]
   unfold ratS
   rw [decI_nat]
   have e0:=neg?_dec m []
   have e1:=neg?_dec m (47 :: dec d)
   rw [List.append_nil] at e0
   split
   ·rw [e0];decide
   ·rw [e1];decide
 rw [key,qn_ratS,qn_ratS,qd_ratS,qd_ratS]
 exact ⟨rightQ_ratS h1 (by rw [Int.natAbs_neg];exact h2) (by rw [dl_neg];exact h3) h4,rfl,rfl⟩
theorem subQ_negT {a b:Str} (ra:rightQ a=true) (rb:rightQ b=true) (hb:b≠[48]):addQE a (negT b)=subQE a b∧addQS a (negT b)=subQS a b:=by
 have h:=negT_right rb hb
 have e1:errQ a b=0:=errQ_zero.2 ⟨ra,rb⟩
 have e2:errQ a (negT b)=0:=errQ_zero.2 ⟨ra,h.1⟩
 have hS:sumOK (qn a*qd b) (-(qn b)*qd a) (qn a*qd b + -(qn b)*qd a) ((qd a:Int)*qd b)↔sumOK (qn a*qd b) (qn b*qd a) (qn a*qd b - qn b*qd a) ((qd a:Int)*qd b):=by
  unfold sumOK;rw [Int.neg_mul,dl_neg,← Int.sub_eq_add_neg]
 have hE:addQE a (negT b)=subQE a b:=by
  unfold addQE subQE
  rw [e1,e2,h.2.1,h.2.2,if_pos rfl,if_pos rfl]
  by_cases h9:sumOK (qn a*qd b) (qn b*qd a) (qn a*qd b - qn b*qd a) ((qd a:Int)*qd b)
  ·rw [if_pos h9,if_pos (hS.2 h9)]
  ·rw [if_neg h9,if_neg (fun h=>h9 (hS.1 h))]
 refine ⟨hE,?_⟩
 unfold addQS subQS
 rw [hE,h.2.1,h.2.2,Int.neg_mul,← Int.sub_eq_add_neg]
theorem subQ_zero (a:Str):addQE a [48]=subQE a [48]∧addQS a [48]=subQS a [48]:=by
 have h0:qn [48]=0:=by decide
 have hE:addQE a [48]=subQE a [48]:=by
  unfold addQE subQE
  simp only [h0,Int.zero_mul,Int.sub_zero,Int.add_zero]
 refine ⟨hE,?_⟩
 unfold addQS subQS
 rw [hE,h0,Int.zero_mul,Int.sub_zero,Int.add_zero]
theorem cmpQ_zero (a:Str):cmpQ a [48]=signQ a:=by
 unfold cmpQ signQ
 have h0:qn [48]=0:=by decide
 have h1:qd [48]=1:=by decide
 by_cases h:rightQ a=true
 ·rw [if_pos (errQ_zero.2 ⟨h,by decide +kernel⟩),if_pos h,h0,h1,Int.zero_mul,Int.natCast_one,Int.mul_one]
 ·rw [if_neg (fun e=>h (errQ_zero.1 e).1),if_neg h]
theorem mulQ_form {a b:Str} (h:errQ a b≠0):mulQE a b=3∧mulQS a b=[]∧addQE a b=3∧addQS a b=[]∧subQE a b=3∧subQS a b=[]∧quoQE a b=3∧quoQS a b=[]:=by
 have e1:mulQE a b=3:=by unfold mulQE;rw [if_neg h]
 have e2:addQE a b=3:=by unfold addQE;rw [if_neg h]
 have e3:subQE a b=3:=by unfold subQE;rw [if_neg h]
 have e4:quoQE a b=3:=by unfold quoQE;rw [if_neg h]
 refine ⟨e1,?_,e2,?_,e3,?_,e4,?_⟩
 ·unfold mulQS;rw [e1];rfl
 ·unfold addQS;rw [e2];rfl
 ·unfold subQS;rw [e3];rfl
 ·unfold quoQS;rw [e4];rfl
end Num
end Go.Proofs.YtjcekdiocliddaaGreatDoor

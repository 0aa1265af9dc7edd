/- Texts of rational numbers: plain. -/
import Derived.Test.YtjcekdiocliddaaGreatDoorG1
import Derived.Lib.IndexMore
namespace Go.Proofs.YtjcekdiocliddaaGreatDoor
set_option linter.unusedVariables false
namespace Num
def Ae (s:Sr):Bool:=s.any (·== 47)
def PS (s:Sr):Sr:=s.takeWhile (·!= 47)
def postS (s:Sr):Sr:=(s.dropWhile (·!= 47)).drop 1
def nT (s:Sr):Sr:=if Ae s=true then PS s else s
def DT (s:Sr):Sr:=if Ae s=true then postS s else [49]
def Da (n:Int) (d:Nat):Sr:=if d=1 then dI n else dI n ++ 47 :: dec d
theorem Ca (d:Nat):∀ c ∈ dec d,c≠47:=by
 intro c hc e;have:=List.all_eq_true.1 (da d) c hc;rw [e] at this;exact absurd this (by decide)
theorem nI (n:Int):∀ c ∈ dI n,c≠47:=by
 intro c hc;unfold dI at hc;by_cases h:n<0
 ·rw [if_pos h] at hc
  rcases List.mem_cons.1 hc with rfl | hc
  ·decide
  ·exact Ca _ c hc
 ·rw [if_neg h] at hc;exact Ca _ c hc
theorem hasS_no {s:Sr} (h:∀ c ∈ s,c≠47):Ae s=false:=by
 unfold Ae;rw [List.any_eq_false];intro c hc;simpa using h c hc
theorem takeWhile_no {s:Sr} (h:∀ c ∈ s,c≠47) (t:Sr):(s ++ 47 :: t).takeWhile (·!= 47)=s/\(s ++ 47 :: t).dropWhile (·!= 47)=47 :: t:=by
 induction s with
 |nil=>simp
 |cons c r ih =>
  have hc:=h c (by simp);have h2:(c != 47)=true:=by simpa using hc
  have:=ih (fun x hx=>h x (by simp [hx]));rw [List.cons_append,List.takeWhile_cons,List.dropWhile_cons,h2];simp only [if_true];rw [this.1,this.2];exact ⟨rfl,rfl⟩
theorem hasS_mid (s t:Sr):Ae (s ++ 47 :: t)=true:=by unfold Ae;simp
theorem Bf {s:Sr} (h:Ae s=true):s=PS s ++ 47 :: postS s/\∀ c ∈ PS s,c≠47:=by
 unfold PS postS
 induction s with
 |nil=>simp [Ae] at h
 |cons c r ih =>
  by_cases hc:c=47
  ·subst hc;simp
  ·have h2:(c != 47)=true:=by simpa using hc
   have h3:Ae r=true:=by
    unfold Ae at h ⊢;rw [List.any_cons] at h;have:(c == 47)=false:=by simpa using hc
    rw [this,Bool.false_or] at h;exact h
   have ih':=ih h3;rw [List.takeWhile_cons,List.dropWhile_cons,h2];simp only [if_true];refine ⟨by rw [List.cons_append,<- ih'.1],?_⟩;intro x hx;rcases List.mem_cons.1 hx with rfl | hx
   ·exact hc
   ·exact ih'.2 x hx
theorem pS (n:Int) (d:Nat):nT (Da n d)=dI n/\DT (Da n d)=dec d/\Ae (Da n d)=!decide (d=1):=by
 unfold Da;by_cases h:d=1
 ·subst h
  rw [if_pos rfl];have h1:=hasS_no (nI n);unfold nT DT;rw [h1];simp only [Bool.false_eq_true,if_false];exact ⟨trivial,(dec_lt (n:=1) (by omega)).symm,by simp⟩
 ·rw [if_neg h]
  have h1:=hasS_mid (dI n) (dec d);have h2:=takeWhile_no (nI n) (dec d);unfold nT DT PS postS;rw [h1,if_pos rfl,if_pos rfl,h2.1,h2.2];exact ⟨rfl,rfl,by simp [h]⟩
def rQ (s:Sr):Bool:=RI (nT s) && decide ((mg (nT s)).length<=4096) &&
 (!Ae s || (right (DT s) && decide ((DT s).length<=4096) && !(DT s == [48]) && !(DT s == [49]) && !(nT s == [48]) && decide (Nat.gcd (val (mg (nT s))) (val (DT s))=1)))
theorem dec_eq_zero {n:Nat}:dec n=[48]↔n=0:=⟨fun h=>Di (h.trans dz.symm),fun h=>by rw [h];exact dz⟩
theorem dO:dec 1=[49]:=dec_lt (by omega)
theorem dec_eq_one {n:Nat}:dec n=[49]↔n=1:=⟨fun h=>Di (h.trans dO.symm),fun h=>by rw [h];exact dO⟩
theorem decI_eq_zero {n:Int}:dI n=[48]↔n=0:=⟨fun h=>decI_inj (h.trans decI_zero.symm),fun h=>by rw [h];exact decI_zero⟩
theorem rightQ_ratS {n:Int} {d:Nat} (hd:0<d) (hg:Nat.gcd n.natAbs d=1) (hn:dl n<=4096) (hl:(dec d).length<=4096):rQ (Da n d)=true:=by
 have h:=pS n d;unfold rQ;rw [h.1,h.2.1,h.2.2,Cv,mD,vD,vD,rd];have hn':(dec n.natAbs).length<=4096:=hn;by_cases h1:d=1
 ·simp [h1,hn']
 ·have h2:(dec d == [48])=false:=by
   have:dec d≠[48]:=fun e=>by have:=dec_eq_zero.1 e;omega
   simpa using this
  have h3:(dec d == [49])=false:=by
   have:dec d≠[49]:=fun e=>h1 (dec_eq_one.1 e);simpa using this
  have h4:(dI n == [48])=false:=by
   have:dI n≠[48]:=fun e=>by
    have:=decI_eq_zero.1 e;rw [this] at hg;simp at hg;exact h1 hg
   simpa using this
  simp [h1,hn',hl,h2,h3,h4];exact hg
theorem rightQ_out {s:Sr} (h:rQ s=true):∃ (n:Int) (d:Nat),0<d/\Nat.gcd n.natAbs d=1/\dl n<=4096/\(dec d).length<=4096/\s=Da n d:=by
 unfold rQ at h;simp only [Bool.and_eq_true,decide_eq_true_eq,Bool.or_eq_true,Bool.not_eq_true'] at h;obtain ⟨⟨h1,h2⟩,h3⟩:=h
 have hdl:dl (VI (nT s))<=4096:=by
  unfold dl;rw [abs_valI,<- dm h1];exact h2
 rcases h3 with h3 | ⟨⟨⟨⟨⟨h3,h4⟩,h5⟩,h6⟩,h7⟩,h8⟩
 ·refine ⟨VI (nT s),1,by omega,Nat.gcd_one_right _,hdl,by rw [dO];decide,?_⟩
  unfold Da;rw [if_pos rfl,decI_valI h1];unfold nT;rw [h3];rfl
 ·have hv:dec (val (DT s))=DT s:=Dv h3
  have hd0:val (DT s)≠0:=by
   intro e;rw [e,dz] at hv;rw [<- hv] at h5;simp at h5
  have hd1:val (DT s)≠1:=by
   intro e;rw [e,dO] at hv;rw [<- hv] at h6;simp at h6
  refine ⟨VI (nT s),val (DT s),by omega,by rw [abs_valI];exact h8,hdl,by rw [hv];exact h4,?_⟩;unfold Da;rw [if_neg hd1,decI_valI h1,hv];by_cases hs:Ae s=true
  ·have:=(Bf hs).1
   unfold nT DT;rw [if_pos hs,if_pos hs];exact this
  ·have:DT s=[49]:=if_neg hs
   rw [this] at h6;simp at h6
def lowS (n:Int) (m:Nat):Sr:=Da (n / (Nat.gcd n.natAbs m:Nat)) (m / Nat.gcd n.natAbs m)
theorem low_parts (n:Int) {m:Nat} (hm:0<m):∃ (a:Int) (b g:Nat),0<b/\0<g/\Nat.gcd a.natAbs b=1/\n=a*g/\m=b*g/\lowS n m=Da a b/\a.natAbs<=n.natAbs/\b<=m:=by
 have hg:0<Nat.gcd n.natAbs m:=Nat.gcd_pos_of_pos_right _ hm;obtain ⟨b,hb⟩:=Nat.gcd_dvd_right n.natAbs m;obtain ⟨c,hc⟩:=Nat.gcd_dvd_left n.natAbs m;generalize hgg:Nat.gcd n.natAbs m=g at *;have hdv:(g:Int) ∣ n:=Int.ofNat_dvd_left.2 ⟨c,hc⟩;obtain ⟨a,ha⟩:=hdv;have ha2:n / (g:Int)=a:=by rw [ha];exact Int.mul_ediv_cancel_left _ (by omega)
 have hb2:m / g=b:=by rw [hb];exact Nat.mul_div_cancel_left _ hg
 have hac:a.natAbs=c:=by
  have h1:=congrArg Int.natAbs ha;rw [Int.natAbs_mul,Int.natAbs_natCast,hc] at h1;exact (Nat.eq_of_mul_eq_mul_left hg h1).symm
 have hb0:0<b:=by
  rcases Nat.eq_zero_or_pos b with h | h
  ·rw [h,Nat.mul_zero] at hb;omega
  ·exact h
 have hcop:Nat.gcd a.natAbs b=1:=by
  have h1:Nat.gcd (g*c) (g*b)=g*Nat.gcd c b:=Nat.gcd_mul_left g c b;rw [<- hc,<- hb,hgg] at h1;rw [hac];have h2:g*1=g*Nat.gcd c b:=by rw [Nat.mul_one];exact h1
  exact (Nat.eq_of_mul_eq_mul_left hg h2).symm
 refine ⟨a,b,g,hb0,hg,hcop,by rw [ha,Int.mul_comm],by rw [hb,Nat.mul_comm],?_,?_,?_⟩
 ·unfold lowS;rw [hgg,ha2,hb2]
 ·rw [hac,hc];exact Nat.le_mul_of_pos_left _ hg
 ·rw [hb];exact Nat.le_mul_of_pos_left _ hg
end Num
end Go.Proofs.YtjcekdiocliddaaGreatDoor
namespace Go.Proofs.YtjcekdiocliddaaGreatDoor
set_option linter.unusedVariables false
namespace Num
theorem qI_pos {x y:Int} (hy:0<y):qI x y=x / y/\rI x y=x % y:=by
 have hq:qI x y=x / y:=if_neg (by omega);refine ⟨hq,?_⟩;unfold rI;rw [hq];have:=Int.mul_ediv_add_emod x y;omega
def qn (s:Sr):Int:=VI (nT s)
def qd (s:Sr):Nat:=val (DT s)
theorem qn_ratS (n:Int) (d:Nat):qn (Da n d)=n:=by unfold qn;rw [(pS n d).1,vI]
theorem qd_ratS (n:Int) (d:Nat):qd (Da n d)=d:=by unfold qd;rw [(pS n d).2.1,vD]
def eQ (a b:Sr):Int:=if rQ a=true/\rQ b=true then 0 else 3
def sumOK (x y z:Int) (m:Int):Prop:=dl x<=4096/\dl y<=4096/\dl z<=4096/\dl m<=4096
instance (x y z m:Int):Decidable (sumOK x y z m):=by unfold sumOK;infer_instance
def aQ (a b:Sr):Int:=if eQ a b=0 then (if sumOK (qn a*qd b) (qn b*qd a) (qn a*qd b+qn b*qd a) ((qd a:Int)*qd b) then 0 else 4) else 3
def AQ (a b:Sr):Sr:=if aQ a b=0 then lowS (qn a*qd b+qn b*qd a) (qd a*qd b) else []
end Num
end Go.Proofs.YtjcekdiocliddaaGreatDoor
namespace Go.Proofs.YtjcekdiocliddaaGreatDoor
namespace Num
set_option linter.unusedVariables false
theorem Ih (s:Sr):Lib.index s [47]=if Ae s=true then ((PS s).length:Int) else -1:=by
 induction s with
 |nil=>rfl
 |cons c r ih =>
  rw [Lib.index];by_cases hc:c=47
  ·subst hc
   have h1:Ae (47 :: r)=true:=by unfold Ae;simp
   have h2:PS (47 :: r)=[]:=by unfold PS;simp
   rw [h1,h2];rfl
  ·have hp:([47]:Sr).isPrefixOf (c :: r)=false:=by
    have h1:((47:UInt8) == c)=false:=by simpa using fun e:(47:UInt8)=c=>hc e.symm
    show ((47:UInt8) == c && _)=false
    rw [h1];rfl
   have hh:Ae (c :: r)=Ae r:=by
    unfold Ae;rw [List.any_cons];have:(c == 47)=false:=by simpa using hc
    rw [this,Bool.false_or]
   have h2:(c != 47)=true:=by simpa using hc
   have hpre:PS (c :: r)=c :: PS r:=by unfold PS;rw [List.takeWhile_cons,h2];rfl
   rw [hp,ih,hh,hpre];by_cases h3:Ae r=true
   ·rw [if_pos h3,if_pos h3]
    have h4:(((PS r).length:Int) == -1)=false:=by rw [beq_eq_false_iff_ne];omega
    simp [h4]
   ·rw [if_neg h3,if_neg h3];rfl
theorem contains_slash (s:Sr):Lib.contains s [47]=Ae s:=by
 unfold Lib.contains;rw [Ih];by_cases h:Ae s=true
 ·rw [if_pos h,h];simp
 ·rw [if_neg h];simp at h;rw [h];rfl
theorem cut_slash (s:Sr):Lib.cut s [47]=if Ae s=true then (PS s,postS s,true) else (s,[],false):=by
 unfold Lib.cut;rw [Ih];by_cases h:Ae s=true
 ·rw [if_pos h,if_pos h,if_pos (Int.natCast_nonneg _)]
  have hs:=(Bf h).1
  have e:∀ a b:Sr,(a ++ 47 :: b).take a.length=a/\(a ++ 47 :: b).drop (a.length+1)=b:=by
   intro a b;refine ⟨List.take_left,?_⟩;rw [List.drop_append,List.drop_of_length_le (by omega),show a.length+1 - a.length=1 by omega];rfl
  have h12:=e (PS s) (postS s);rw [<- hs] at h12;obtain ⟨h1,h2⟩:=h12;rw [Int.toNat_natCast,show ([47]:Sr).length=1 from rfl,h1,h2]
 ·rw [if_neg h,if_neg h,if_neg (show ¬ (0:Int) <= -1 by decide)]
end Num
end Go.Proofs.YtjcekdiocliddaaGreatDoor
namespace Go.Proofs.YtjcekdiocliddaaGreatDoor
namespace Num
set_option linter.unusedVariables false
theorem low_read (p:Int) {q:Nat} (hq:0<q):∃ g:Nat,0<g/\p=qn (lowS p q)*g/\q=qd (lowS p q)*g/\0<qd (lowS p q)/\Nat.gcd (qn (lowS p q)).natAbs (qd (lowS p q))=1/\lowS p q=Da (qn (lowS p q)) (qd (lowS p q)) /\
  (qn (lowS p q)).natAbs<=p.natAbs/\qd (lowS p q)<=q:=by
 obtain ⟨a,b,g,hb,hg,hc,e1,e2,e3,h4,h5⟩:=low_parts p hq;rw [e3,qn_ratS,qd_ratS];exact ⟨g,hg,e1,e2,hb,hc,rfl,h4,h5⟩
theorem Dt (q:Nat):dl (q:Int)=(dec q).length:=by unfold dl;rw [Int.natAbs_natCast]
theorem right_low {p:Int} {q:Nat} (hq:0<q) (h1:dl p<=4096) (h2:dl (q:Int)<=4096):rQ (lowS p q)=true:=by
 obtain ⟨g,hg,e1,e2,h3,h4,h5,h6,h7⟩:=low_read p hq;rw [h5];refine rightQ_ratS h3 h4 (Nat.le_trans (dl_mono h6) h1) ?_;rw [<- Dt];exact Nat.le_trans (dl_mono (by rw [Int.natAbs_natCast,Int.natAbs_natCast];exact h7)) h2
section
variable {p p':Int} {q q':Nat} (hq:0<q) (hq':0<q')
include hq hq'
end
theorem errQ_zero {a b:Sr}:eQ a b=0↔rQ a=true/\rQ b=true:=by
 unfold eQ;by_cases h:rQ a=true/\rQ b=true
 ·rw [if_pos h];simp [h]
 ·rw [if_neg h];simp;intro h1;cases h2:rQ b with
  |false=>rfl
  |true=>exact absurd ⟨h1,h2⟩ h
end Num
end Go.Proofs.YtjcekdiocliddaaGreatDoor
namespace Go.Proofs.YtjcekdiocliddaaGreatDoor
namespace Num
set_option linter.unusedVariables false
def Fr (k:Nat) (p:Int) (q:Nat):Prop:=0<q/\dl p<=k/\dl (q:Int)<=k
theorem Fr.right {k:Nat} {p:Int} {q:Nat} (h:Fr k p q) (hk:k<=4096):rQ (lowS p q)=true:=right_low h.1 (by have:=h.2.1;omega) (by have:=h.2.2;omega)
section
variable {k m:Nat} {p p':Int} {q q':Nat} (h:Fr k p q) (h':Fr m p' q') (hk:k+m+1<=4096)
include h h' hk
end
theorem dl_one:dl 1=1:=by unfold dl;rw [show (1:Int).natAbs=1 from rfl,dO];rfl
theorem Fr.int {k:Nat} {n:Int} (hk:1<=k) (h:dl n<=k):Fr k n 1:=⟨by omega,h,by rw [show ((1:Nat):Int)=1 from rfl,dl_one];exact hk⟩
end Num
end Go.Proofs.YtjcekdiocliddaaGreatDoor
namespace Go.Proofs.YtjcekdiocliddaaGreatDoor
open Num
set_option linter.unusedVariables false
def ints (ns:List Int):List Value:=ns.map fun n=>Value.int .i64 n
theorem il (ns:List Int):(ints ns).length=ns.length:=by simp [ints]
namespace Num
end Num
end Go.Proofs.YtjcekdiocliddaaGreatDoor

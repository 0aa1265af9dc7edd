/- The values of rational texts as rational numbers: plain. -/
import Derived.Test.YtjcekdiocliddaaGreatDoorRTimesP
import Derived.Test.YtjcekdiocliddaaGreatDoorG1
import Derived.Test.YtjcekdiocliddaaGreatDoorG10
import Derived.SliceStrings
import Derived.Carry
import Derived.ChangeSlices
import Derived.ChangeSame
namespace Go.Proofs.YtjcekdiocliddaaGreatDoor
namespace Num
set_option linter.unusedVariables false
theorem frac_cancel (a b g:Rat) (hg:g≠0) (hb:b≠0):(a*g) / (b*g)=a / b:=by grind
theorem frac_add (a b c d:Rat) (hb:b≠0) (hd:d≠0):(a*d+c*b) / (b*d)=a / b+c / d:=by grind
theorem frac_mul (a b c d:Rat) (hb:b≠0) (hd:d≠0):(a*c) / (b*d)=a / b*(c / d):=by grind
theorem frac_eq (a b c d:Rat) (hb:b≠0) (hd:d≠0) (h:a / b=c / d):a*d=c*b:=by grind
theorem frac_up (a b d:Rat) (hb:b≠0):a / b*(b*d)=a*d:=by grind
theorem frac_up2 (c b d:Rat) (hd:d≠0):c / d*(b*d)=c*b:=by grind
theorem frac_lt (a b c d:Rat) (hb:0<b) (hd:0<d):a / b<c / d↔a*d<c*b:=by
 have hb0:b≠0:=by grind
 have hd0:d≠0:=by grind
 have hp:=Rat.mul_pos hb hd
 constructor
 ·intro h
  have:=Rat.mul_lt_mul_of_pos_right h hp
  rwa [frac_up a b d hb0,frac_up2 c b d hd0] at this
 ·intro h
  rcases Std.le_total (a:=c / d) (b:=a / b) with h1 | h1
  ·exfalso
   have:=Rat.mul_le_mul_of_nonneg_right h1 (Std.le_of_lt hp)
   rw [frac_up a b d hb0,frac_up2 c b d hd0] at this
   grind
  ·rcases Rat.le_iff_lt_or_eq.1 h1 with h2 | h2
   ·exact h2
   ·have:=frac_eq a b c d hb0 hd0 h2
    grind
def rq (s:Str):Rat:=((qn s:Int):Rat) / (((qd s:Nat):Int):Rat)
theorem natpos {q:Nat} (h:0<q):(0:Rat)<(((q:Nat):Int):Rat):=by
 have:((0:Int):Rat)<(((q:Nat):Int):Rat):=Rat.intCast_lt_intCast.2 (by omega)
 exact this
theorem natne {q:Nat} (h:0<q):(((q:Nat):Int):Rat)≠0:=by have:=natpos h;grind
theorem rq_low {p:Int} {q:Nat} (hq:0<q):rq (lowS p q)=(p:Rat) / (((q:Nat):Int):Rat):=by
 obtain ⟨g,hg,e1,e2,h3,_⟩:=low_read p hq
 unfold rq
 generalize qn (lowS p q)=a at *
 generalize qd (lowS p q)=b at *
 subst e1 e2
 rw [Rat.intCast_mul,Int.natCast_mul,Rat.intCast_mul]
 exact (frac_cancel _ _ _ (natne hg) (natne h3)).symm
theorem rq_int (n:Int):rq (decI n)=(n:Rat):=by
 rw [← low_int,rq_low (by omega)]
 have:(((1:Nat):Int):Rat)=1:=rfl
 rw [this];grind
theorem rq_add {a b:Str} (h:addQE a b=0):rightQ (addQS a b)=true∧rq (addQS a b)=rq a+rq b:=by
 have hf:=addQ_fr h
 rw [hf.2.2.2]
 have p1:=qd_pos hf.1
 have p2:=qd_pos hf.2.1
 refine ⟨hf.2.2.1.right (Nat.le_refl _),?_⟩
 rw [rq_low hf.2.2.1.1]
 unfold rq
 rw [Rat.intCast_add,Rat.intCast_mul,Rat.intCast_mul,Int.natCast_mul,Rat.intCast_mul]
 exact frac_add _ _ _ _ (natne p1) (natne p2)
theorem rq_mul {a b:Str} (h:mulQE a b=0):rightQ (mulQS a b)=true∧rq (mulQS a b)=rq a*rq b:=by
 have hf:=mulQ_fr h
 rw [hf.2.2.2]
 have p1:=qd_pos hf.1
 have p2:=qd_pos hf.2.1
 refine ⟨hf.2.2.1.right (Nat.le_refl _),?_⟩
 rw [rq_low hf.2.2.1.1]
 unfold rq
 rw [Rat.intCast_mul,Int.natCast_mul,Rat.intCast_mul]
 exact frac_mul _ _ _ _ (natne p1) (natne p2)
theorem rq_lt {a b:Str} (ha:rightQ a=true) (hb:rightQ b=true):rq a<rq b↔qn a*qd b<qn b*qd a:=by
 unfold rq
 rw [frac_lt _ _ _ _ (natpos (qd_pos ha)) (natpos (qd_pos hb)),← Rat.intCast_mul,← Rat.intCast_mul]
 exact Rat.intCast_lt_intCast
theorem cmpQ_rat {a b:Str} (ha:rightQ a=true) (hb:rightQ b=true):(cmpQ a b<0↔rq a<rq b)∧(0<cmpQ a b↔rq b<rq a):=by
 have e:cmpQ a b=ordI (qn a*qd b) (qn b*qd a):=by unfold cmpQ;rw [if_pos (errQ_zero.2 ⟨ha,hb⟩)]
 rw [rq_lt ha hb,rq_lt hb ha,e]
 unfold ordI
 constructor
 ·split
  ·simp_all
  ·split <;> simp_all
 ·split
  ·constructor
   ·intro h;omega
   ·intro h;omega
  ·split <;> simp_all
theorem rq_inj {a b:Str} (ha:rightQ a=true) (hb:rightQ b=true) (h:rq a=rq b):a=b:=by
 have h1:=frac_eq _ _ _ _ (natne (qd_pos ha)) (natne (qd_pos hb)) h
 rw [← Rat.intCast_mul,← Rat.intCast_mul] at h1
 have h2:=Rat.intCast_inj.1 h1
 rw [(fr_right ha).1,(fr_right hb).1]
 exact lowS_eq (qd_pos ha) (qd_pos hb) h2
theorem cmpQ_zero' (a:Str):cmpQ a [48]=signQ a:=by
 unfold cmpQ signQ
 have h0:qn [48]=0:=by decide
 have h1:qd [48]=1:=by decide
 by_cases h:rightQ a=true
 ·rw [if_pos (errQ_zero.2 ⟨h,by decide +kernel⟩),if_pos h,h0,h1,Int.zero_mul,Int.natCast_one,Int.mul_one]
 ·rw [if_neg (fun e=>h (errQ_zero.1 e).1),if_neg h]
theorem signQ_rat {a:Str} (ha:rightQ a=true):(signQ a<0↔rq a<0)∧(0<signQ a↔0<rq a):=by
 rw [← cmpQ_zero' a]
 have h0:rq [48]=0:=by
  have:=rq_int 0
  rw [decI_zero] at this
  rw [this];rfl
 have:=cmpQ_rat ha (b:=[48]) (by decide +kernel)
 rw [h0] at this
 exact this
def dot:List Int→List Rat→Rat
 |n :: ns,x :: xs=>(n:Rat)*x+dot ns xs
 |_,_=>0
theorem fold_rat {s:Str} (hs:rightQ s=true) (ns:List Int) (xs:List Str) (h:(foldT s ns xs).2=0):rightQ (foldT s ns xs).1=true∧rq (foldT s ns xs).1=rq s+dot ns (xs.map rq):=by
 induction ns generalizing s xs with
 |nil=>unfold foldT dot;exact ⟨hs,by grind⟩
 |cons n ns ih =>
  cases xs with
  |nil=>unfold foldT dot;exact ⟨hs,by grind⟩
  |cons x xs =>
   unfold foldT at h ⊢
   by_cases h1:mulQE (decI n) x=0
   ·rw [if_pos h1] at h ⊢
    by_cases h2:addQE s (mulQS (decI n) x)=0
    ·rw [if_pos h2] at h ⊢
     have hm:=rq_mul h1
     have ha:=rq_add h2
     have:=ih ha.1 xs h
     refine ⟨this.1,?_⟩
     rw [this.2,ha.2,hm.2,rq_int]
     show _=rq s+((n:Rat)*rq x+dot ns (xs.map rq))
     grind
    ·rw [if_neg h2] at h;exact absurd h h2
   ·rw [if_neg h1] at h;exact absurd h h1
theorem times_rat {ns:List Int} {xs:List Str} (h:(timesQ ns xs).2=0):ns.length=xs.length∧xs.all rightQ=true∧rightQ (timesQ ns xs).1=true∧rq (timesQ ns xs).1=dot ns (xs.map rq):=by
 unfold timesQ at h ⊢
 by_cases h1:ns.length=xs.length
 ·rw [if_pos h1] at h ⊢
  by_cases h2:xs.all rightQ=true
  ·rw [if_pos h2] at h ⊢
   have:=fold_rat (s:=[48]) (by decide +kernel) ns xs h
   refine ⟨h1,h2,this.1,?_⟩
   have h0:rq [48]=0:=by
    have:=rq_int 0
    rw [decI_zero] at this
    rw [this];rfl
   rw [this.2,h0];grind
  ·rw [if_neg h2] at h;exact absurd h (by decide)
 ·rw [if_neg h1] at h;exact absurd h (by decide)
end Num
end Go.Proofs.YtjcekdiocliddaaGreatDoor
namespace Go.Proofs.YtjcekdiocliddaaGreatDoor
namespace Num
set_option linter.unusedVariables false
def sumN:Nat→(Nat→Rat)→Rat
 |0,_=>0
 |n+1,f=>sumN n f+f n
theorem sumN_congr {n:Nat} {f g:Nat→Rat} (h:∀ i,i<n→f i=g i):sumN n f=sumN n g:=by
 induction n with
 |zero=>rfl
 |succ n ih=>unfold sumN;rw [ih (fun i hi=>h i (by omega)),h n (by omega)]
theorem sumN_le {n:Nat} {f g:Nat→Rat} (h:∀ i,i<n→f i≤g i):sumN n f≤sumN n g:=by
 induction n with
 |zero=>exact Rat.le_refl
 |succ n ih=>unfold sumN;have h1:=ih (fun i hi=>h i (by omega));have h2:=h n (by omega);grind
theorem sumN_add (n:Nat) (f g:Nat→Rat):sumN n (fun i=>f i+g i)=sumN n f+sumN n g:=by
 induction n with
 |zero=>unfold sumN;grind
 |succ n ih=>unfold sumN;rw [ih];grind
theorem sumN_mul (n:Nat) (c:Rat) (f:Nat→Rat):sumN n (fun i=>c*f i)=c*sumN n f:=by
 induction n with
 |zero=>unfold sumN;grind
 |succ n ih=>unfold sumN;rw [ih];grind
theorem sumN_zero (n:Nat):sumN n (fun _=>0)=0:=by
 induction n with
 |zero=>rfl
 |succ n ih=>show sumN n (fun _=>0)+0=0;rw [ih];grind
theorem sumN_swap (n m:Nat) (f:Nat→Nat→Rat):sumN n (fun i=>sumN m (fun j=>f i j))=sumN m (fun j=>sumN n (fun i=>f i j)):=by
 induction n with
 |zero=>exact (sumN_zero m).symm
 |succ n ih =>
  show sumN n (fun i=>sumN m (fun j=>f i j))+sumN m (fun j=>f n j)=sumN m (fun j=>sumN n (fun i=>f i j)+f n j)
  rw [ih,sumN_add]
theorem sumN_front (n:Nat) (f:Nat→Rat):sumN (n+1) f=f 0+sumN n (fun i=>f (i+1)):=by
 induction n with
 |zero=>unfold sumN sumN;grind
 |succ n ih=>rw [sumN,ih,sumN];grind
theorem dot_sum (ns:List Int) (xs:List Rat) (h:ns.length=xs.length):dot ns xs=sumN ns.length (fun i=>((ns.getD i 0:Int):Rat)*xs.getD i 0):=by
 induction ns generalizing xs with
 |nil=>unfold dot;rfl
 |cons n ns ih =>
  cases xs with
  |nil=>exact absurd h (by simp)
  |cons x xs =>
   rw [dot,ih xs (by simpa using h),List.length_cons,sumN_front]
   rfl
def holdsR (k:Int) (l r:Rat):Prop:=if k=1 then l≤r else if k=3 then r≤l else l=r
def signR (k:Int) (d:Rat):Prop:=(k=1→d≤0)∧(k=3→0≤d)
theorem weak (n m:Nat) (cost:Nat→Rat) (coef:Nat→Nat→Rat) (kind:Nat→Int) (right X D:Nat→Rat)
  (hX:∀ i,i<n→0≤X i) (hH:∀ r,r<m→holdsR (kind r) (sumN n (fun i=>coef r i*X i)) (right r)) (hS:∀ r,r<m→signR (kind r) (D r))
  (hB:∀ i,i<n→sumN m (fun r=>coef r i*D r)≤cost i):sumN m (fun r=>right r*D r)≤sumN n (fun i=>cost i*X i):=by
 have h1:sumN m (fun r=>right r*D r)≤sumN m (fun r=>D r*sumN n (fun i=>coef r i*X i)):=by
  refine sumN_le fun r hr=>?_
  have hh:=hH r hr
  have hs:=hS r hr
  generalize sumN n (fun i=>coef r i*X i)=L at hh ⊢
  unfold holdsR at hh
  unfold signR at hs
  by_cases k0:kind r=1
  ·rw [if_pos k0] at hh
   have hd:=hs.1 k0
   have:=Rat.mul_le_mul_of_nonneg_left hh (show 0 ≤ -(D r) by grind)
   grind
  ·rw [if_neg k0] at hh
   by_cases k2:kind r=3
   ·rw [if_pos k2] at hh
    have hd:=hs.2 k2
    have:=Rat.mul_le_mul_of_nonneg_left hh hd
    grind
   ·rw [if_neg k2] at hh
    rw [hh];grind
 have h2:sumN m (fun r=>D r*sumN n (fun i=>coef r i*X i))=sumN n (fun i=>X i*sumN m (fun r=>coef r i*D r)):=by
  rw [sumN_congr (fun r _=>(sumN_mul n (D r) (fun i=>coef r i*X i)).symm),sumN_swap]
  refine sumN_congr fun i _=>?_
  rw [← sumN_mul]
  exact sumN_congr fun r _=>by grind
 have h3:sumN n (fun i=>X i*sumN m (fun r=>coef r i*D r))≤sumN n (fun i=>cost i*X i):=by
  refine sumN_le fun i hi=>?_
  have:=Rat.mul_le_mul_of_nonneg_left (hB i hi) (hX i hi)
  grind
 rw [h2] at h1
 grind
theorem mean_sum (n:Nat) (c X Y Z:Nat→Rat) (h:∀ i,i<n→Z i=(X i+Y i) / 2):sumN n (fun i=>c i*Z i)=(sumN n (fun i=>c i*X i)+sumN n (fun i=>c i*Y i)) / 2:=by
 induction n with
 |zero=>unfold sumN;grind
 |succ n ih =>
  show sumN n (fun i=>c i*Z i)+c n*Z n=((sumN n (fun i=>c i*X i)+c n*X n)+(sumN n (fun i=>c i*Y i)+c n*Y n)) / 2
  rw [ih (fun i hi=>h i (by omega)),h n (by omega)];grind
theorem mean_holds {k:Int} {a b r:Rat} (ha:holdsR k a r) (hb:holdsR k b r):holdsR k ((a+b) / 2) r:=by
 unfold holdsR at *
 by_cases k0:k=1
 ·rw [if_pos k0] at *;grind
 ·rw [if_neg k0] at *
  by_cases k2:k=3
  ·rw [if_pos k2] at *;grind
  ·rw [if_neg k2] at *;grind
end Num
end Go.Proofs.YtjcekdiocliddaaGreatDoor
namespace Go.Proofs.YtjcekdiocliddaaGreatDoor
namespace Num
set_option linter.unusedVariables false
structure RowL where
 coef:List Int
 kind:Int
 right:Int
structure LinL where
 cost:List Int
 rows:List RowL
def holdsB (k c:Int):Bool:=if k=1 then decide (c≤0) else if k=3 then decide (0≤c) else decide (c=0)
def rowB (r:RowL) (xs:List Str):Bool:=decide ((timesQ r.coef xs).2=0) && holdsB r.kind (cmpQ (timesQ r.coef xs).1 (decI r.right))
def posB (x:Str):Bool:=rightQ x && decide (0≤signQ x)
def fitsB (p:LinL) (xs:List Str):Bool:=decide (xs.length=p.cost.length) && xs.all posB && p.rows.all (fun r=>rowB r xs)
def signB (r:RowL) (d:Str):Bool:=rightQ d && !(decide (r.kind=1) && decide (0<signQ d)) && !(decide (r.kind=3) && decide (signQ d<0))
def signsB (p:LinL) (ds:List Str):Bool:=decide (ds.length=p.rows.length) && (p.rows.zip ds).all (fun q=>signB q.1 q.2)
def col (p:LinL) (i:Nat):List Int:=p.rows.map fun r=>r.coef.getD i 0
def rightsL (p:LinL):List Int:=p.rows.map fun r=>r.right
def colB (p:LinL) (ds:List Str) (lim:List Int) (i:Nat):Bool:=decide ((timesQ (col p i) ds).2=0) && decide (cmpQ (timesQ (col p i) ds).1 (decI (lim.getD i 0))≤0)
def belowB (p:LinL) (ds:List Str) (lim:List Int):Bool:=(List.range p.cost.length).all (colB p ds lim)
def provesB (p:LinL) (ds:List Str):Bool:=signsB p ds && belowB p ds p.cost && decide ((timesQ (rightsL p) ds).2=0)
def provesS (p:LinL) (ds:List Str):Str:=if provesB p ds=true then (timesQ (rightsL p) ds).1 else []
def refutesB (p:LinL) (ds:List Str):Bool:=signsB p ds && belowB p ds [] && decide ((timesQ (rightsL p) ds).2=0) && decide (0<signQ (timesQ (rightsL p) ds).1)
def wfL (p:LinL):Prop:=(∀ r ∈ p.rows,r.coef.length=p.cost.length∧fits r.right)∧∀ n ∈ p.cost,fits n
theorem rightQ_decI {n:Int} (h:fits n):rightQ (decI n)=true:=by
 have h2:dl n≤20:=by
  rw [dl_le (by omega)]
  obtain ⟨h3,h4⟩:=h
  omega
 rw [← low_int]
 exact (Fr.int (k:=4096) (by omega) (by omega)).right (Nat.le_refl _)
def rowAt (p:LinL) (r:Nat):RowL:=p.rows.getD r ⟨[],0,0⟩
def rat (xs:List Str) (i:Nat):Rat:=(xs.map rq).getD i 0
theorem rat_get {xs:List Str} {i:Nat} (h:i<xs.length):rat xs i=rq xs[i]:=by
 unfold rat;rw [List.getD_eq_getElem?_getD,List.getElem?_map,List.getElem?_eq_getElem h];rfl
theorem times_sum {ns:List Int} {xs:List Str} (h:(timesQ ns xs).2=0):ns.length=xs.length∧rightQ (timesQ ns xs).1=true∧rq (timesQ ns xs).1=sumN ns.length (fun i=>((ns.getD i 0:Int):Rat)*rat xs i):=by
 have ht:=times_rat h
 refine ⟨ht.1,ht.2.2.1,?_⟩
 rw [ht.2.2.2,dot_sum _ _ (by rw [List.length_map];exact ht.1)]
 rfl
theorem holds_rat {k:Int} {t:Str} {r:Int} (ht:rightQ t=true) (hr:fits r) (h:holdsB k (cmpQ t (decI r))=true):holdsR k (rq t) (r:Rat):=by
 have hc:=cmpQ_rat ht (rightQ_decI hr)
 rw [rq_int] at hc
 generalize cmpQ t (decI r)=c at *
 unfold holdsB at h
 unfold holdsR
 by_cases k0:k=1
 ·rw [if_pos k0] at *
  have h1:c≤0:=by simpa using h
  have h2:¬ ((r:Rat)<rq t):=fun h3=>by have:=hc.2.2 h3;omega
  grind
 ·rw [if_neg k0] at *
  by_cases k2:k=3
  ·rw [if_pos k2] at *
   have h1:0≤c:=by simpa using h
   have h2:¬ (rq t<(r:Rat)):=fun h3=>by have:=hc.1.2 h3;omega
   grind
  ·rw [if_neg k2] at *
   have h1:c=0:=by simpa using h
   have h2:¬ (rq t<(r:Rat)):=fun h3=>by have:=hc.1.2 h3;omega
   have h4:¬ ((r:Rat)<rq t):=fun h3=>by have:=hc.2.2 h3;omega
   grind
theorem holds_text {k:Int} {t:Str} {r:Int} (ht:rightQ t=true) (hr:fits r) (h:holdsR k (rq t) (r:Rat)):holdsB k (cmpQ t (decI r))=true:=by
 have hc:=cmpQ_rat ht (rightQ_decI hr)
 rw [rq_int] at hc
 generalize cmpQ t (decI r)=c at *
 unfold holdsR at h
 unfold holdsB
 by_cases k0:k=1
 ·rw [if_pos k0] at *
  have h2:¬ 0<c:=fun h3=>by have:=hc.2.1 h3;grind
  simp;omega
 ·rw [if_neg k0] at *
  by_cases k2:k=3
  ·rw [if_pos k2] at *
   have h2:¬ c<0:=fun h3=>by have:=hc.1.1 h3;grind
   simp;omega
  ·rw [if_neg k2] at *
   have h2:¬ c<0:=fun h3=>by have:=hc.1.1 h3;grind
   have h4:¬ 0<c:=fun h3=>by have:=hc.2.1 h3;grind
   simp;omega
theorem rowAt_eq {p:LinL} {r:Nat} (h:r<p.rows.length):rowAt p r=p.rows[r]:=by
 unfold rowAt;rw [List.getD_eq_getElem?_getD,List.getElem?_eq_getElem h];rfl
theorem col_get {p:LinL} {i r:Nat} (h:r<p.rows.length):(col p i).getD r 0=(rowAt p r).coef.getD i 0:=by
 rw [rowAt_eq h];unfold col;rw [List.getD_eq_getElem?_getD,List.getElem?_map,List.getElem?_eq_getElem h];rfl
theorem rights_get {p:LinL} {r:Nat} (h:r<p.rows.length):(rightsL p).getD r 0=(rowAt p r).right:=by
 rw [rowAt_eq h];unfold rightsL;rw [List.getD_eq_getElem?_getD,List.getElem?_map,List.getElem?_eq_getElem h];rfl
theorem fits_rat {p:LinL} {xs:List Str} (hw:wfL p) (h:fitsB p xs=true):xs.length=p.cost.length∧(∀ i,i<p.cost.length→0≤rat xs i) ∧
  ∀ r,r<p.rows.length→holdsR (rowAt p r).kind (sumN p.cost.length (fun i=>(((rowAt p r).coef.getD i 0:Int):Rat)*rat xs i)) (((rowAt p r).right:Int):Rat):=by
 unfold fitsB at h
 simp only [Bool.and_eq_true,decide_eq_true_eq] at h
 obtain ⟨⟨hl,hx⟩,hr⟩:=h
 rw [List.all_eq_true] at hx hr
 refine ⟨hl,fun i hi=>?_,fun r hlt=>?_⟩
 ·have hi':i<xs.length:=by omega
  rw [rat_get hi']
  have h1:=hx xs[i] (List.getElem_mem hi')
  unfold posB at h1
  simp only [Bool.and_eq_true,decide_eq_true_eq] at h1
  have h2:=signQ_rat h1.1
  have h3:¬ rq xs[i]<0:=fun h3=>by have:=h2.1.2 h3;omega
  grind
 ·rw [rowAt_eq hlt]
  have hm:=List.getElem_mem hlt
  have h1:=hr _ hm
  have h2:=hw.1 _ hm
  generalize p.rows[r]=R at *
  unfold rowB at h1
  simp only [Bool.and_eq_true,decide_eq_true_eq] at h1
  have h3:=times_sum h1.1
  have h4:=holds_rat h3.2.1 h2.2 h1.2
  rw [h3.2.2,h2.1] at h4
  exact h4
theorem bound_rat {p:LinL} {xs ds:List Str} {lim:List Int} (hw:wfL p) (hf:fitsB p xs=true) (hlim:∀ i,fits (lim.getD i 0)) (hs:signsB p ds=true) (hb:belowB p ds lim=true) (hk:(timesQ (rightsL p) ds).2=0) :
  rightQ (timesQ (rightsL p) ds).1=true∧rq (timesQ (rightsL p) ds).1≤sumN p.cost.length (fun i=>((lim.getD i 0:Int):Rat)*rat xs i):=by
 have hF:=fits_rat hw hf
 have hB:=times_sum hk
 unfold signsB at hs
 simp only [Bool.and_eq_true,decide_eq_true_eq] at hs
 obtain ⟨hdl,hs⟩:=hs
 rw [List.all_eq_true] at hs
 unfold belowB at hb
 rw [List.all_eq_true] at hb
 refine ⟨hB.2.1,?_⟩
 rw [hB.2.2]
 have hrl:(rightsL p).length=p.rows.length:=by unfold rightsL;rw [List.length_map]
 rw [hrl,sumN_congr (g:=fun r=>(((rowAt p r).right:Int):Rat)*rat ds r) (fun r hr=>by rw [rights_get hr])]
 refine weak p.cost.length p.rows.length (fun i=>((lim.getD i 0:Int):Rat)) (fun r i=>(((rowAt p r).coef.getD i 0:Int):Rat)) (fun r=>(rowAt p r).kind) (fun r=>(((rowAt p r).right:Int):Rat)) (rat xs) (rat ds) hF.2.1 hF.2.2 ?_ ?_
 ·intro r hr
  have hr':r<ds.length:=by omega
  have hm:(p.rows[r],ds[r]) ∈ p.rows.zip ds:=by
   rw [← List.getElem_zip (h:=by rw [List.length_zip];omega)]
   exact List.getElem_mem _
  have h1:=hs _ hm
  rw [rowAt_eq hr,rat_get hr']
  unfold signB at h1
  simp only [Bool.and_eq_true,Bool.not_eq_true',Bool.and_eq_false_iff,decide_eq_false_iff_not] at h1
  obtain ⟨⟨hd,h2⟩,h3⟩:=h1
  have hsg:=signQ_rat hd
  constructor
  ·intro k
   rcases h2 with h2 | h2
   ·exact absurd k h2
   ·have:¬ 0<rq ds[r]:=fun h=>h2 (hsg.2.2 h)
    grind
  ·intro k
   rcases h3 with h3 | h3
   ·exact absurd k h3
   ·have:¬ rq ds[r]<0:=fun h=>h3 (hsg.1.2 h)
    grind
 ·intro i hi
  have h1:=hb i (List.mem_range.2 hi)
  unfold colB at h1
  simp only [Bool.and_eq_true,decide_eq_true_eq] at h1
  have h2:=times_sum h1.1
  have hcl:(col p i).length=p.rows.length:=by unfold col;rw [List.length_map]
  rw [hcl,sumN_congr (g:=fun r=>(((rowAt p r).coef.getD i 0:Int):Rat)*rat ds r) (fun r hr=>by rw [col_get hr])] at h2
  have h3:=cmpQ_rat h2.2.1 (rightQ_decI (hlim i))
  rw [rq_int] at h3
  show sumN p.rows.length (fun r=>(((rowAt p r).coef.getD i 0:Int):Rat)*rat ds r)≤((lim.getD i 0:Int):Rat)
  rw [← h2.2.2]
  have h4:¬ ((lim.getD i 0:Int):Rat)<rq (timesQ (col p i) ds).1:=fun h=>by have:=h3.2.2 h;omega
  grind
theorem fits_zero:fits 0:=by constructor <;> decide
theorem cost_fits {p:LinL} (hw:wfL p) (i:Nat):fits (p.cost.getD i 0):=by
 rw [List.getD_eq_getElem?_getD]
 rcases Nat.lt_or_ge i p.cost.length with h | h
 ·rw [List.getElem?_eq_getElem h];exact hw.2 _ (List.getElem_mem h)
 ·rw [List.getElem?_eq_none h];exact fits_zero
theorem weak_refutes {p:LinL} {xs ds:List Str} (hw:wfL p) (hf:fitsB p xs=true):refutesB p ds=false:=by
 cases h:refutesB p ds
 ·rfl
 ·exfalso
  unfold refutesB at h
  simp only [Bool.and_eq_true,decide_eq_true_eq] at h
  obtain ⟨⟨⟨h1,h2⟩,h3⟩,h4⟩:=h
  have hb:=bound_rat hw hf (lim:=[]) (fun i=>by simpa using fits_zero) h1 h2 h3
  have hz:sumN p.cost.length (fun i=>(((([]:List Int).getD i 0):Int):Rat)*rat xs i)=0:=by
   rw [← sumN_zero p.cost.length]
   refine sumN_congr fun i _=>?_
   rw [show ([]:List Int).getD i 0=0 by simp]
   have:((0:Int):Rat)=0:=rfl
   rw [this];grind
  rw [hz] at hb
  have:=(signQ_rat hb.1).2.1 h4
  have h9:=hb.2
  grind
theorem weak_proves {p:LinL} {xs ds:List Str} (hw:wfL p) (hf:fitsB p xs=true) (hp:provesB p ds=true) (hv:(timesQ p.cost xs).2=0):¬ cmpQ (timesQ p.cost xs).1 (provesS p ds)<0:=by
 have hS:provesS p ds=(timesQ (rightsL p) ds).1:=by unfold provesS;rw [if_pos hp]
 rw [hS]
 unfold provesB at hp
 simp only [Bool.and_eq_true,decide_eq_true_eq] at hp
 obtain ⟨⟨h1,h2⟩,h3⟩:=hp
 have hb:=bound_rat hw hf (cost_fits hw) h1 h2 h3
 have hvs:=times_sum hv
 rw [← hvs.2.2] at hb
 intro hc
 have:=(cmpQ_rat hvs.2.1 hb.1).1.1 hc
 have h9:=hb.2
 grind
end Num
end Go.Proofs.YtjcekdiocliddaaGreatDoor
namespace Go.Proofs.YtjcekdiocliddaaGreatDoor
namespace Num
set_option linter.unusedVariables false
def FrT (k:Nat) (s:Str):Prop:=∃ p q,Fr k p q∧s=lowS p q
theorem FrT.mono {k m:Nat} {s:Str} (h:FrT k s) (hk:k≤m):FrT m s:=by obtain ⟨p,q,hf,e⟩:=h;exact ⟨p,q,hf.mono hk,e⟩
theorem frT_of {s:Str} {k:Nat} (h:rightQ s=true) (hl:s.length≤k):FrT k s:=⟨_,_,fr_of h hl,(fr_right h).1⟩
theorem frT_int {n:Int} (h:fits n):FrT 20 (decI n):=by
 have h2:dl n≤20:=by
  rw [dl_le (by omega)]
  obtain ⟨h3,h4⟩:=h
  omega
 exact ⟨n,1,Fr.int (by omega) h2,(low_int n).symm⟩
theorem FrT.right {k:Nat} {s:Str} (h:FrT k s) (hk:k≤4096):rightQ s=true:=by obtain ⟨p,q,hf,rfl⟩:=h;exact hf.right hk
theorem FrT.len {k:Nat} {s:Str} (h:FrT k s):s.length≤2*k+2:=by obtain ⟨p,q,hf,rfl⟩:=h;exact fr_len2 hf
theorem FrT.add {k m:Nat} {a b:Str} (ha:FrT k a) (hb:FrT m b) (hk:k+m+1≤4096):addQE a b=0∧FrT (k+m+1) (addQS a b):=by
 obtain ⟨p,q,hf,rfl⟩:=ha
 obtain ⟨r,s,hg,rfl⟩:=hb
 have h:=addQ_low hf hg hk
 exact ⟨h.1,_,_,hf.add hg,h.2⟩
theorem FrT.mul {k m:Nat} {a b:Str} (ha:FrT k a) (hb:FrT m b) (hk:k+m+1≤4096):mulQE a b=0∧FrT (k+m) (mulQS a b):=by
 obtain ⟨p,q,hf,rfl⟩:=ha
 obtain ⟨r,s,hg,rfl⟩:=hb
 have h:=mulQ_low hf hg hk
 exact ⟨h.1,_,_,hf.mul hg,h.2⟩
theorem frT_zero:FrT 1 [48]:=⟨0,1,Fr.int (by omega) (by decide +kernel),by rw [low_int];exact decI_zero.symm⟩
theorem fold_ok {K:Nat} (ns:List Int):∀ (xs:List Str) (s:Str) (k:Nat),FrT k s→(∀ n ∈ ns,fits n)→(∀ x ∈ xs,FrT K x)→k+ns.length*(21+K)≤4096 →
  (foldT s ns xs).2=0∧FrT (k+ns.length*(21+K)) (foldT s ns xs).1:=by
 induction ns with
 |nil=>intro xs s k hs _ _ _;unfold foldT;exact ⟨rfl,hs.mono (by omega)⟩
 |cons n ns ih =>
  intro xs s k hs hn hx hk
  cases xs with
  |nil=>unfold foldT;exact ⟨rfl,hs.mono (by omega)⟩
  |cons x xs =>
   rw [List.length_cons,Nat.add_mul,Nat.one_mul] at hk
   have hm:=(frT_int (hn n (by simp))).mul (hx x (by simp)) (by omega)
   have ha:=hs.add hm.2 (by omega)
   have h:=ih xs _ _ ha.2 (fun n h=>hn n (by simp [h])) (fun x h=>hx x (by simp [h])) (by omega)
   unfold foldT
   rw [if_pos hm.1,if_pos ha.1]
   exact ⟨h.1,h.2.mono (by rw [List.length_cons,Nat.add_mul,Nat.one_mul];omega)⟩
theorem times_ok {K:Nat} {ns:List Int} {xs:List Str} (hl:ns.length=xs.length) (hn:∀ n ∈ ns,fits n) (hx:∀ x ∈ xs,FrT K x) (hK:K≤4096) (hk:1+ns.length*(21+K)≤4096) :
  (timesQ ns xs).2=0∧FrT (1+ns.length*(21+K)) (timesQ ns xs).1:=by
 unfold timesQ
 rw [if_pos hl,if_pos (List.all_eq_true.2 fun x h=>(hx x h).right hK)]
 exact fold_ok ns xs [48] 1 frT_zero hn hx hk
def halfS (a b:Str):Str:=quoQS (addQS a b) [50]
theorem rq_two:rq [50]=2:=by
 have h2:decI 2=[50]:=by decide +kernel
 have:=rq_int 2
 rw [h2] at this
 rw [this];rfl
theorem half_ok {k m:Nat} {a b:Str} (ha:FrT k a) (hb:FrT m b) (hk:k+m+3≤4096):addQE a b=0∧quoQE (addQS a b) [50]=0∧FrT (k+m+2) (halfS a b)∧rq (halfS a b)=(rq a+rq b) / 2:=by
 have h:=ha.add hb (by omega)
 have hr:=rq_add h.1
 obtain ⟨p,q,hf,e⟩:=h.2
 have h2:Fr 1 2 1:=Fr.int (by omega) (by decide +kernel)
 have e2:([50]:Str)=lowS 2 1:=by rw [low_int];decide +kernel
 have hq:=quoQ_low hf h2 (by omega) (by decide)
 have hp:=hf.1
 have hF:=hf.mul (Fr.mono (p:=1) (q:=2) (k:=1) (m:=1) ⟨by omega,by decide +kernel,by decide +kernel⟩ (Nat.le_refl _))
 have eS:halfS a b=lowS (p*1) (q*2):=by
  unfold halfS
  rw [e,e2,hq.2]
  rw [show (q:Int)*2=((q*2:Nat):Int) by simp,quoS_pos (by omega)]
  simp
 refine ⟨h.1,by rw [e,e2];exact hq.1,?_,?_⟩
 ·rw [eS];exact ⟨_,_,hF,rfl⟩
 ·rw [← hr.2,eS,e,rq_low (by omega),rq_low hp,Int.mul_one,Int.natCast_mul,Rat.intCast_mul]
  have hn:=natne hp
  have:(((2:Nat):Int):Rat)=2:=rfl
  rw [this]
  grind
def halves (xs ys:List Str):List Str:=List.zipWith halfS xs ys
theorem halves_length (xs ys:List Str) (h:xs.length=ys.length):(halves xs ys).length=xs.length:=by unfold halves;rw [List.length_zipWith];omega
theorem mean_fits {p:LinL} {xs ys:List Str} (hw:wfL p) (hc:p.cost.length≤12) (hrn:∀ r ∈ p.rows,∀ n ∈ r.coef,fits n) (hx:fitsB p xs=true) (hy:fitsB p ys=true) (sx:∀ x ∈ xs,x.length≤60) (sy:∀ y ∈ ys,y.length≤60) :
  fitsB p (halves xs ys)=true∧(timesQ p.cost xs).2=0∧(timesQ p.cost ys).2=0∧(timesQ p.cost (halves xs ys)).2=0 ∧
  addQE (timesQ p.cost xs).1 (timesQ p.cost ys).1=0∧quoQE (addQS (timesQ p.cost xs).1 (timesQ p.cost ys).1) [50]=0∧halfS (timesQ p.cost xs).1 (timesQ p.cost ys).1=(timesQ p.cost (halves xs ys)).1:=by
 have fx:=fits_rat hw hx
 have fy:=fits_rat hw hy
 have right_of:∀ zs,fitsB p zs=true→∀ z ∈ zs,rightQ z=true:=by
  intro zs h z hz
  unfold fitsB at h
  simp only [Bool.and_eq_true] at h
  have h1:=(List.all_eq_true.1 h.1.2) z hz
  unfold posB at h1
  simp only [Bool.and_eq_true] at h1
  exact h1.1
 have tx:∀ x ∈ xs,FrT 60 x:=fun x h=>frT_of (right_of xs hx x h) (sx x h)
 have ty:∀ y ∈ ys,FrT 60 y:=fun y h=>frT_of (right_of ys hy y h) (sy y h)
 have hl:xs.length=ys.length:=by rw [fx.1,fy.1]
 have hzl:=halves_length xs ys hl
 have zget:∀ i (hi:i<xs.length),(halves xs ys)[i]'(by omega)=halfS xs[i] (ys[i]'(by omega)):=by
  intro i hi;unfold halves;rw [List.getElem_zipWith]
 have zok:∀ i (hi:i<xs.length),FrT 122 (halfS xs[i] (ys[i]'(by omega)))∧rq (halfS xs[i] (ys[i]'(by omega)))=(rq xs[i]+rq (ys[i]'(by omega))) / 2:=by
  intro i hi
  have:=half_ok (tx _ (List.getElem_mem hi)) (ty _ (List.getElem_mem (show i<ys.length by omega))) (by omega)
  exact ⟨this.2.2.1,this.2.2.2⟩
 have tz:∀ z ∈ halves xs ys,FrT 122 z:=by
  intro z hz
  obtain ⟨i,hi,rfl⟩:=List.getElem_of_mem hz
  rw [zget i (by omega)]
  exact (zok i (by omega)).1
 have zrat:∀ i,i<p.cost.length→rat (halves xs ys) i=(rat xs i+rat ys i) / 2:=by
  intro i hi
  have h1:i<xs.length:=by omega
  rw [rat_get (show i<(halves xs ys).length by omega),rat_get h1,rat_get (show i<ys.length by omega),zget i h1,(zok i h1).2]
 have bnd:p.cost.length*(21+122)≤12*(21+122):=Nat.mul_le_mul_right _ hc
 have bnd2:p.cost.length*(21+60)≤12*(21+60):=Nat.mul_le_mul_right _ hc
 have vx:=times_ok (K:=60) (fx.1.symm) hw.2 tx (by omega) (by omega)
 have vy:=times_ok (K:=60) (fy.1.symm) hw.2 ty (by omega) (by omega)
 have vz:=times_ok (K:=122) (show p.cost.length=(halves xs ys).length by omega) hw.2 tz (by omega) (by omega)
 have hh:=half_ok vx.2 vy.2 (by omega)
 have mx:=(times_sum vx.1).2.2
 have my:=(times_sum vy.1).2.2
 have mz:=(times_sum vz.1).2.2
 refine ⟨?_,vx.1,vy.1,vz.1,hh.1,hh.2.1,?_⟩
 ·unfold fitsB
  simp only [Bool.and_eq_true,decide_eq_true_eq]
  refine ⟨⟨by omega,?_⟩,?_⟩
  ·rw [List.all_eq_true]
   intro z hz
   obtain ⟨i,hi,rfl⟩:=List.getElem_of_mem hz
   have h1:=tz _ hz
   have hr:=h1.right (by omega)
   unfold posB
   rw [hr,Bool.true_and,decide_eq_true_eq]
   have h2:=zrat i (by omega)
   rw [rat_get hi] at h2
   have h3:=fx.2.1 i (by omega)
   have h4:=fy.2.1 i (by omega)
   have h5:=signQ_rat hr
   by_cases h6:signQ (halves xs ys)[i]<0
   ·have:=h5.1.1 h6;grind
   ·omega
  ·rw [List.all_eq_true]
   intro r hr
   have hrl:=hw.1 r hr
   have t:=times_ok (K:=122) (show r.coef.length=(halves xs ys).length by omega) (hrn r hr) tz (by omega) (by rw [hrl.1];omega)
   unfold rowB
   simp only [Bool.and_eq_true,decide_eq_true_eq]
   refine ⟨t.1,holds_text (t.2.right (by rw [hrl.1];omega)) hrl.2 ?_⟩
   obtain ⟨i,hi,rfl⟩:=List.getElem_of_mem hr
   have h1:=fx.2.2 i hi
   have h2:=fy.2.2 i hi
   rw [rowAt_eq hi] at h1 h2
   have ms:=(times_sum t.1).2.2
   rw [ms,hrl.1,mean_sum p.cost.length (fun j=>(((p.rows[i].coef.getD j 0:Int)):Rat)) (rat xs) (rat ys) (rat (halves xs ys)) zrat]
   exact mean_holds h1 h2
 ·refine rq_inj (hh.2.2.1.right (by omega)) (vz.2.right (by omega)) ?_
  rw [hh.2.2.2,mx,my,mz,mean_sum p.cost.length (fun j=>(((p.cost.getD j 0:Int)):Rat)) (rat xs) (rat ys) (rat (halves xs ys)) zrat]
end Num
end Go.Proofs.YtjcekdiocliddaaGreatDoor
namespace Go.Proofs.YtjcekdiocliddaaGreatDoor
open Go.ChangeShapes Go.WideShapes Go.RowKit Num
set_option linter.unusedVariables false
theorem lt_of_cell {w:World} {b o:Nat} {u:Value} {j:Nat} (h:w.cell? ((⟨b,o,none⟩:Addr).add j)=some u):b<w.heap.size:=by
 rcases Nat.lt_or_ge b w.heap.size with h' | h'
 ·exact h'
 ·rw [add_plain] at h
  unfold World.cell? at h
  simp only at h
  rw [Array.getElem?_eq_none h'] at h
  simp at h
theorem open_strs_list {H:Type} {enc:TypeId × Value→H} {W:World} {P:Program} {t e:TypeId} (ht:P.underlying t=some (.slice e)) (he:P.underlying e=some .string) (hc:P.cellsOf e=1) {v:Value} {d:DataW H} {p:List MemPlace}
  (hv:∃ a len cap,v=.slice a len cap) (h:DataW.Trod enc P W 0 (fun _=>true) true t v d p) :
  ∃ (A:Option Addr) (ls:List Str) (c:Nat),v=.slice A ls.length c∧ls.length≤c∧c≤maxLen∧Cells W A (Go.Proofs.YtjcekdiocliddaaGreatDoor.strs ls)∧∀ s ∈ ls,s.length≤maxLen:=by
 obtain ⟨a0,len,cap,rfl⟩:=hv
 obtain ⟨fuel,hf⟩:=h
 rcases open_strings ht he hc hf with ⟨hcs,hx⟩ | ⟨a,len',cap',ss,hcs,_,hl,hm,hz,hx,hcell,hsz⟩
 ·simp [Value.cells] at hcs
  obtain ⟨rfl,rfl,rfl⟩:=hcs
  exact ⟨none,[],0,rfl,by simp,by unfold maxLen;omega,Cells.nil _ _,by simp⟩
 ·simp [Value.cells] at hcs
  obtain ⟨rfl,rfl,rfl⟩:=hcs
  simp only [if_true] at hz
  obtain ⟨b,off,spot⟩:=a
  have hlen:(ss.take len).length=len:=by rw [List.length_take];omega
  refine ⟨some ⟨b,off,spot⟩,(ss.take len).map (fun s=>s.data.toList),cap,by rw [List.length_map,hlen],by rw [List.length_map,hlen];exact hl,hm,fun h0=>?_,?_⟩
  ·rw [strs_length,List.length_map,hlen] at h0
   have hspot:spot=none:=by simpa [Addr.add] using World.cell?_spot (hcell 0 (by omega))
   subst hspot
   refine ⟨b,off,rfl,lt_of_cell (hcell 0 (by omega)),fun j u hu=>?_⟩
   have hj:j<len:=by
    have:=(List.getElem?_eq_some_iff.1 hu).1
    rw [strs_length,List.length_map,hlen] at this
    exact this
   have h1:=hcell j (by omega)
   rw [add_plain] at h1
   rw [h1,← hu]
   have hjs:j<ss.length:=by omega
   simp only [Go.Proofs.YtjcekdiocliddaaGreatDoor.strs,List.getElem?_map,List.getElem?_take_of_lt hj,List.getElem?_eq_getElem hjs,Option.map_some,List.getD_eq_getElem?_getD,Option.getD_some]
   rw [← B_of]
  ·intro s hs
   obtain ⟨x,hx1,rfl⟩:=List.mem_map.1 hs
   have:=hsz x (List.mem_of_mem_take hx1)
   show x.data.toList.length≤maxLen
   rw [Array.length_toList];exact this
theorem arg_stays {H:Type} {enc:TypeId × Value→H} {P:Program} {t:TypeId} (hl:laidOutB P=true) (hr:P.readableRec t=true) (hrow:t<P.types.size) {W W':World} {v:Value} {d:DataW H} {ps:List MemPlace}
  (h:DataW.Trod enc P W 0 (fun _=>true) true t v d ps) (hb:Below W.heap.size W W') (hlt:∀ x ∈ ps,x.block<W.heap.size) {sp:Nat→Bool} (hs:∀ x ∈ ps,sp x.block=true) :
  DataW.Trod enc P W' 0 sp true t v d ps :=
 WideElems.Trod_stays hl hr hrow h (fun x hx=>hb.same (hlt x hx)) hs
theorem open_ints_list {H:Type} {enc:TypeId × Value→H} {W:World} {P:Program} {t e:TypeId} (ht:P.underlying t=some (.slice e)) (he:P.underlying e=some (.int .i64)) (hc:P.cellsOf e=1) {v:Value} {d:DataW H} {p:List MemPlace}
  (hv:∃ a len cap,v=.slice a len cap) (h:DataW.Trod enc P W 0 (fun _=>true) true t v d p) :
  ∃ (A:Option Addr) (ns:List Int) (c:Nat),v=.slice A ns.length c∧ns.length≤c∧c≤maxLen∧Cells W A (Go.Proofs.YtjcekdiocliddaaGreatDoor.ints ns)∧∀ n ∈ ns,fits n:=by
 obtain ⟨a0,len,cap,rfl⟩:=hv
 obtain ⟨fuel,hf⟩:=h
 rcases open_ints ht he hc hf with ⟨hcs,hx⟩ | ⟨a,len',cap',zs,hcs,_,hl,hm,hz,hx,hcell,hsz⟩
 ·simp [Value.cells] at hcs
  obtain ⟨rfl,rfl,rfl⟩:=hcs
  exact ⟨none,[],0,rfl,by simp,by unfold maxLen;omega,Cells.nil _ _,by simp⟩
 ·simp [Value.cells] at hcs
  obtain ⟨rfl,rfl,rfl⟩:=hcs
  simp only [if_true] at hz
  obtain ⟨b,off,spot⟩:=a
  have hlen:(zs.take len).length=len:=by rw [List.length_take];omega
  refine ⟨some ⟨b,off,spot⟩,zs.take len,cap,by rw [hlen],by rw [hlen];exact hl,hm,fun h0=>?_,?_⟩
  ·rw [ints_length,hlen] at h0
   have hspot:spot=none:=by simpa [Addr.add] using World.cell?_spot (hcell 0 (by omega))
   subst hspot
   refine ⟨b,off,rfl,lt_of_cell (hcell 0 (by omega)),fun j u hu=>?_⟩
   have hj:j<len:=by
    have:=(List.getElem?_eq_some_iff.1 hu).1
    rw [ints_length,hlen] at this
    exact this
   have h1:=hcell j (by omega)
   rw [add_plain] at h1
   rw [h1,← hu]
   have hjs:j<zs.length:=by omega
   simp only [Go.Proofs.YtjcekdiocliddaaGreatDoor.ints,List.getElem?_map,List.getElem?_take_of_lt hj,List.getElem?_eq_getElem hjs,Option.map_some,List.getD_eq_getElem?_getD,Option.getD_some]
  ·intro n hn
   have h2:=hsz n (List.mem_of_mem_take hn)
   have h3:IntKind.i64.min≤n∧n≤IntKind.i64.max:=by simpa [Lit.wf] using h2
   exact h3
structure RowV where
 A:Option Addr
 c:Nat
 L:RowL
def RowsAt (w:World) (A:Option Addr) (rs:List RowV):Prop :=
 (0<rs.length→∃ b off,A=some ⟨b,off,none⟩∧b<w.heap.size∧∀ i (hi:i<rs.length),
  w.cell? ⟨b,off+i*3,none⟩=some (.slice rs[i].A rs[i].L.coef.length rs[i].c)∧w.cell? ⟨b,off+i*3+1,none⟩=some (.int .i64 rs[i].L.kind)∧w.cell? ⟨b,off+i*3+2,none⟩=some (.int .i64 rs[i].L.right)) ∧
 ∀ r ∈ rs,Cells w r.A (ints r.L.coef)
theorem RowsAt.below {w w':World} {A:Option Addr} {rs:List RowV} (h:RowsAt w A rs) (hb:Below w.heap.size w w'):RowsAt w' A rs:=by
 refine ⟨fun h0=>?_,fun r hr=>(h.2 r hr).below hb⟩
 obtain ⟨b,off,e,hlt,hc⟩:=h.1 h0
 refine ⟨b,off,e,Nat.lt_of_lt_of_le hlt hb.size,fun i hi=>?_⟩
 have:=hc i hi
 exact ⟨(hb.cell (p:=⟨b,off+i*3,none⟩) hlt).trans this.1,(hb.cell (p:=⟨b,off+i*3+1,none⟩) hlt).trans this.2.1,(hb.cell (p:=⟨b,off+i*3+2,none⟩) hlt).trans this.2.2⟩
def RowV.ok (r:RowV):Prop:=r.L.coef.length≤r.c∧r.c≤maxLen∧(∀ n ∈ r.L.coef,fits n)∧fits r.L.kind∧fits r.L.right
theorem list_choose {α:Type} (n:Nat) (Pr:Nat→α→Prop) (h:∀ i,i<n→∃ a,Pr i a):∃ l:List α,l.length=n∧∀ i (hi:i<l.length),Pr i l[i]:=by
 induction n with
 |zero=>exact ⟨[],rfl,fun i hi=>absurd hi (by simp)⟩
 |succ n ih =>
  obtain ⟨l,hl,hp⟩:=ih (fun i hi=>h i (by omega))
  obtain ⟨a,ha⟩:=h n (by omega)
  refine ⟨l ++ [a],by simp [hl],fun i hi=>?_⟩
  by_cases hi2:i<l.length
  ·rw [List.getElem_append_left hi2];exact hp i hi2
  ·have:i=l.length:=by simp at hi;omega
   subst this
   rw [List.getElem_append_right (Nat.le_refl _)]
   simp only [Nat.sub_self,List.getElem_singleton]
   rw [hl];exact ha
theorem wf_fits {n:Int} (h:(Lit.int .i64 n).wf=true):fits n:=by
 have h3:IntKind.i64.min≤n∧n≤IntKind.i64.max:=by simpa [Lit.wf] using h
 exact h3
theorem open_ints_cells {H:Type} {enc:TypeId × Value→H} {W:World} {P:Program} {t e:TypeId} (ht:P.underlying t=some (.slice e)) (he:P.underlying e=some (.int .i64)) (hc:P.cellsOf e=1) {fuel:Nat} {cs:List Value} {x:DataW H × List MemPlace}
  (hf:DataW.trod enc P W 0 (fun _=>true) true fuel t cs=some x) :
  ∃ (A:Option Addr) (ns:List Int) (c:Nat),cs=[.slice A ns.length c]∧ns.length≤c∧c≤maxLen∧Cells W A (Go.Proofs.YtjcekdiocliddaaGreatDoor.ints ns)∧∀ n ∈ ns,fits n:=by
 have hcs:∃ a len cap,cs=[.slice a len cap]:=by
  rcases open_ints ht he hc hf with ⟨hcs,_⟩ | ⟨a,len,cap,_,hcs,_⟩
  ·exact ⟨_,_,_,hcs⟩
  ·exact ⟨_,_,_,hcs⟩
 obtain ⟨a,len,cap,rfl⟩:=hcs
 obtain ⟨A,ns,c,hv,h1,h2,h3,h4⟩:=open_ints_list (v:=.slice a len cap) (d:=x.1) (p:=x.2) ht he hc ⟨_,_,_,rfl⟩ ⟨fuel,by simpa [Value.cells] using hf⟩
 exact ⟨A,ns,c,by rw [hv],h1,h2,h3,h4⟩
section
variable {H:Type} {enc:TypeId × Value→H} {W:World} {P:Program} {t e ts ti:TypeId} {f0 f1 f2:Field}
theorem open_row (he:P.underlying e=some (.struct #[f0,f1,f2])) (hts:P.underlying ts=some (.slice ti)) (hti:P.underlying ti=some (.int .i64)) (hci:P.cellsOf ti=1) (hcs:P.cellsOf ts=1)
  (t0:f0.type=ts∧f0.offset=0) (t1:f1.type=ti∧f1.offset=1) (t2:f2.type=ti∧f2.offset=2) (hce:P.cellsOf e=3)
  {fuel:Nat} {cs:List Value} {x:DataW H × List MemPlace} (hf:DataW.trod enc P W 0 (fun _=>true) true fuel e cs=some x) :
  ∃ r:RowV,cs=[.slice r.A r.L.coef.length r.c,.int .i64 r.L.kind,.int .i64 r.L.right]∧r.ok∧Cells W r.A (ints r.L.coef):=by
 obtain ⟨xs,n,_,rfl,hl,hlen,hg⟩:=DataW.trod_struct he hf
 rw [hce] at hl
 match cs,hl with
 |[u0,u1,u2],_ =>
  match xs,hlen with
  |[y0,y1,y2],_ =>
   have g0:=hg 0 f0 rfl
   have g1:=hg 1 f1 rfl
   have g2:=hg 2 f2 rfl
   rw [t0.1,t0.2,hcs] at g0
   rw [t1.1,t1.2,hci] at g1
   rw [t2.1,t2.2,hci] at g2
   simp only [List.drop_zero,List.take_succ_cons,List.take_zero,List.drop_succ_cons,List.getElem?_cons_zero,List.getElem?_cons_succ] at g0 g1 g2
   obtain ⟨A,ns,c,e0,h1,h2,h3,h4⟩:=open_ints_cells hts hti hci g0
   obtain ⟨k,e1,_,w1⟩:=DataW.trod_int hti g1
   obtain ⟨r,e2,_,w2⟩:=DataW.trod_int hti g2
   injection e0 with e0 _
   injection e1 with e1 _
   injection e2 with e2 _
   exact ⟨⟨A,c,ns,k,r⟩,by rw [e0,e1,e2],⟨h1,h2,h4,wf_fits w1,wf_fits w2⟩,h3⟩
theorem open_rows (ht:P.underlying t=some (.slice e)) (he:P.underlying e=some (.struct #[f0,f1,f2])) (hts:P.underlying ts=some (.slice ti)) (hti:P.underlying ti=some (.int .i64)) (hci:P.cellsOf ti=1) (hcs:P.cellsOf ts=1)
  (t0:f0.type=ts∧f0.offset=0) (t1:f1.type=ti∧f1.offset=1) (t2:f2.type=ti∧f2.offset=2) (hce:P.cellsOf e=3)
  {fuel:Nat} {cs:List Value} {x:DataW H × List MemPlace} (hf:DataW.trod enc P W 0 (fun _=>true) true fuel t cs=some x) :
  ∃ (A:Option Addr) (rs:List RowV) (c:Nat),cs=[.slice A rs.length c]∧rs.length≤c∧c≤maxLen∧RowsAt W A rs∧∀ r ∈ rs,r.ok:=by
 rcases DataW.trod_slice ht hf with ⟨h1,_⟩ | ⟨a,len,cap,elems,rest,n,_,hc1,_,_,hl,hm,hlen,hel,_,_⟩
 ·exact ⟨none,[],0,h1,by simp,by unfold maxLen;omega,⟨fun h=>absurd h (by simp),fun r hr=>absurd hr (by simp)⟩,fun r hr=>absurd hr (by simp)⟩
 ·rw [hce] at hel
  have key:∀ i,i<len→∃ r:RowV,(∀ j v,[Value.slice r.A r.L.coef.length r.c,.int .i64 r.L.kind,.int .i64 r.L.right][j]? = some v→W.cell? ((a.add (i*3)).add j)=some v)∧r.ok∧Cells W r.A (ints r.L.coef):=by
   intro i hi
   have h1:=hel i hi
   rw [List.getElem?_eq_getElem (show i<elems.length by omega)] at h1
   obtain ⟨us,hu1,hu2⟩:=Option.bind_eq_some_iff.1 h1
   obtain ⟨_,hu3,hu4⟩:=World.cells?_some hu1
   obtain ⟨r,rfl,hr1,hr2⟩:=open_row he hts hti hci hcs t0 t1 t2 hce hu2
   refine ⟨r,fun j v hj=>?_,hr1,hr2⟩
   have hjl:=(List.getElem?_eq_some_iff.1 hj).1
   rw [hu4 j (by simpa using hjl)];exact hj
  obtain ⟨rs,hrl,hrp⟩:=list_choose len _ key
  have hin:∀ r ∈ rs,r.ok∧Cells W r.A (ints r.L.coef):=by
   intro r hr
   obtain ⟨i,hi,rfl⟩:=List.getElem_of_mem hr
   exact (hrp i hi).2
  refine ⟨some a,rs,cap,by rw [hc1,hrl],by omega,hm,⟨fun h0=>?_,fun r hr=>(hin r hr).2⟩,fun r hr=>(hin r hr).1⟩
  obtain ⟨b,off,spot⟩:=a
  have h00:=(hrp 0 h0).1 0 _ rfl
  have hspot:spot=none:=by simpa [Addr.add] using World.cell?_spot h00
  subst hspot
  rw [add_plain,add_plain] at h00
  refine ⟨b,off,rfl,?_,fun i hi=>?_⟩
  ·exact lt_of_cell (u:=.slice rs[0].A rs[0].L.coef.length rs[0].c) (o:=off+0*3) (j:=0) (by rw [add_plain];exact h00)
  ·have h0:=(hrp i hi).1 0 _ rfl
   have h1:=(hrp i hi).1 1 _ rfl
   have h2:=(hrp i hi).1 2 _ rfl
   rw [add_plain,add_plain] at h0 h1 h2
   exact ⟨h0,h1,h2⟩
theorem open_lin {g0 g1:Field} {tl:TypeId} (hl:P.underlying tl=some (.struct #[g0,g1])) (ht:P.underlying t=some (.slice e)) (he:P.underlying e=some (.struct #[f0,f1,f2])) (hts:P.underlying ts=some (.slice ti)) (hti:P.underlying ti=some (.int .i64))
  (k0:g0.type=ts∧g0.offset=0) (k1:g1.type=t∧g1.offset=1) (t0:f0.type=ts∧f0.offset=0) (t1:f1.type=ti∧f1.offset=1) (t2:f2.type=ti∧f2.offset=2)
  (hci:P.cellsOf ti=1) (hcs:P.cellsOf ts=1) (hct:P.cellsOf t=1) (hce:P.cellsOf e=3) (hcl:P.cellsOf tl=2) {v:Value} {d:DataW H} {p:List MemPlace}
  (hv:∃ cs,v=.agg cs∧cs.size=P.cellsOf tl) (h:DataW.Trod enc P W 0 (fun _=>true) true tl v d p) :
  ∃ (A:Option Addr) (cost:List Int) (ca:Nat) (R:Option Addr) (rs:List RowV) (cr:Nat),v=.agg #[.slice A cost.length ca,.slice R rs.length cr]∧cost.length≤ca∧ca≤maxLen∧Cells W A (ints cost)∧(∀ n ∈ cost,fits n) ∧
   rs.length≤cr∧cr≤maxLen∧RowsAt W R rs∧∀ r ∈ rs,r.ok:=by
 obtain ⟨cs,rfl,hsz⟩:=hv
 obtain ⟨fuel,hf⟩:=h
 have hf':DataW.trod enc P W 0 (fun _=>true) true fuel tl cs.toList=some (d,p):=hf
 obtain ⟨xs,n,_,_,hl2,hlen,hg⟩:=DataW.trod_struct hl hf'
 rw [hcl] at hl2
 obtain ⟨l⟩:=cs
 match l,hl2 with
 |[u0,u1],_ =>
  match xs,hlen with
  |[y0,y1],_ =>
   have q0:=hg 0 g0 rfl
   have q1:=hg 1 g1 rfl
   rw [k0.1,k0.2,hcs] at q0
   rw [k1.1,k1.2,hct] at q1
   simp only [List.drop_zero,List.take_succ_cons,List.take_zero,List.drop_succ_cons,List.getElem?_cons_zero,List.getElem?_cons_succ] at q0 q1
   obtain ⟨A,cost,ca,e0,h1,h2,h3,h4⟩:=open_ints_cells hts hti hci q0
   obtain ⟨R,rs,cr,e1,h5,h6,h7,h8⟩:=open_rows ht he hts hti hci hcs t0 t1 t2 hce q1
   injection e0 with e0 _
   injection e1 with e1 _
   exact ⟨A,cost,ca,R,rs,cr,by rw [e0,e1],h1,h2,h3,h4,h5,h6,h7,h8⟩
end
end Go.Proofs.YtjcekdiocliddaaGreatDoor
namespace Go.Proofs.YtjcekdiocliddaaGreatDoor
open Num
set_option linter.unusedVariables false
namespace Num
def rowF (n i:Nat) (r:RowL):List (Int × Str):=(if r.coef.length=n then [] else [(2,decI i)]) ++ (if r.kind<1∨3<r.kind then [(8,decI i)] else [])
def headF (p:LinL):List (Int × Str):=(if 8192<p.cost.length then [(4,[])] else []) ++ (if 64<p.rows.length then [(4,[])] else [])
def checkK (p:LinL):Nat→List (Int × Str)
 |0=>headF p
 |k+1=>checkK p k ++ rowF p.cost.length k (rowAt p k)
theorem checkK_nil {p:LinL} {k:Nat} (h:checkK p k=[]):headF p=[]∧∀ i,i<k→rowF p.cost.length i (rowAt p i)=[]:=by
 induction k with
 |zero=>exact ⟨h,fun i hi=>absurd hi (by omega)⟩
 |succ k ih =>
  unfold checkK at h
  obtain ⟨h1,h2⟩:=List.append_eq_nil_iff.1 h
  refine ⟨(ih h1).1,fun i hi=>?_⟩
  by_cases e:i=k
  ·subst e;exact h2
  ·exact (ih h1).2 i (by omega)
theorem check_ok {p:LinL} (h:checkK p p.rows.length=[]):p.cost.length≤8192∧p.rows.length≤64∧∀ r ∈ p.rows,r.coef.length=p.cost.length∧1≤r.kind∧r.kind≤3:=by
 have h1:=checkK_nil h
 have h2:=h1.1
 unfold headF at h2
 obtain ⟨h3,h4⟩:=List.append_eq_nil_iff.1 h2
 refine ⟨?_,?_,?_⟩
 ·split at h3
  ·exact absurd h3 (by simp)
  ·omega
 ·split at h4
  ·exact absurd h4 (by simp)
  ·omega
 ·intro r hr
  obtain ⟨i,hi,rfl⟩:=List.getElem_of_mem hr
  have h5:=h1.2 i hi
  rw [rowAt_eq hi] at h5
  unfold rowF at h5
  obtain ⟨h6,h7⟩:=List.append_eq_nil_iff.1 h5
  refine ⟨?_,?_,?_⟩
  ·split at h6
   ·assumption
   ·exact absurd h6 (by simp)
  ·split at h7
   ·exact absurd h7 (by simp)
   ·omega
  ·split at h7
   ·exact absurd h7 (by simp)
   ·omega
end Num
def fcells (l:List (Int × Str)):List Value:=l.flatMap fun f=>[Value.int .i64 f.1,.string (B f.2)]
theorem fcells_app (a b:List (Int × Str)):fcells (a ++ b)=fcells a ++ fcells b:=by unfold fcells;exact List.flatMap_append
theorem fcells_one (e:Int) (s:Str):fcells [(e,s)]=[.int .i64 e,.string (B s)]:=rfl
theorem fcells_length (l:List (Int × Str)):(fcells l).length=l.length*2:=by
 unfold fcells
 induction l with
 |nil=>rfl
 |cons f l ih=>rw [List.flatMap_cons,List.length_append,ih,List.length_cons,List.length_cons,List.length_cons];simp;omega
theorem fcells_get (l:List (Int × Str)) (i:Nat) (h:i<l.length):(fcells l)[i*2]? = some (.int .i64 l[i].1)∧(fcells l)[i*2+1]? = some (.string (B l[i].2)):=by
 induction l generalizing i with
 |nil=>exact absurd h (by simp)
 |cons f l ih =>
  cases i with
  |zero=>exact ⟨rfl,rfl⟩
  |succ i =>
   have:=ih i (by simpa using h)
   rw [show (i+1)*2=i*2+1+1 by omega]
   exact this
end Go.Proofs.YtjcekdiocliddaaGreatDoor

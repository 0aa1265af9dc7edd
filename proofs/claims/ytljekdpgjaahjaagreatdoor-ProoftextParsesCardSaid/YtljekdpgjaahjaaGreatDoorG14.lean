/- The values of rational texts as rational numbers: plain. -/
import Derived.Test.YtljekdpgjaahjaaGreatDoorRTimesP
import Derived.Test.YtljekdpgjaahjaaGreatDoorG1
namespace Go.Proofs.YtljekdpgjaahjaaGreatDoor
namespace Num
set_option linter.unusedVariables false
theorem frac_cancel (a b g:Rat) (hg:g≠0) (hb:b≠0):(a*g) / (b*g)=a / b:=by grind
theorem frac_add (a b c d:Rat) (hb:b≠0) (hd:d≠0):(a*d+c*b) / (b*d)=a / b+c / d:=by grind
theorem frac_mul (a b c d:Rat) (hb:b≠0) (hd:d≠0):(a*c) / (b*d)=a / b*(c / d):=by grind
theorem frac_eq (a b c d:Rat) (hb:b≠0) (hd:d≠0) (h:a / b=c / d):a*d=c*b:=by grind
theorem frac_up (a b d:Rat) (hb:b≠0):a / b*(b*d)=a*d:=by grind
theorem frac_up2 (c b d:Rat) (hd:d≠0):c / d*(b*d)=c*b:=by grind
theorem frac_lt (a b c d:Rat) (hb:0<b) (hd:0<d):a / b<c / d↔a*d<c*b:=by
 have hb0:b≠0:=by grind
 have hd0:d≠0:=by grind
 have hp:=Rat.mul_pos hb hd
 constructor
 ·intro h
  have:=Rat.mul_lt_mul_of_pos_right h hp
  rwa [frac_up a b d hb0,frac_up2 c b d hd0] at this
 ·intro h
  rcases Std.le_total (a:=c / d) (b:=a / b) with h1 | h1
  ·exfalso
   have:=Rat.mul_le_mul_of_nonneg_right h1 (Std.le_of_lt hp)
   rw [frac_up a b d hb0,frac_up2 c b d hd0] at this
   grind
  ·rcases Rat.le_iff_lt_or_eq.1 h1 with h2 | h2
   ·exact h2
   ·have:=frac_eq a b c d hb0 hd0 h2
    grind
def rq (s:Str):Rat:=((qn s:Int):Rat) / (((qd s:Nat):Int):Rat)
theorem natpos {q:Nat} (h:0<q):(0:Rat)<(((q:Nat):Int):Rat):=by
 have:((0:Int):Rat)<(((q:Nat):Int):Rat):=Rat.intCast_lt_intCast.2 (by omega)
 exact this
theorem natne {q:Nat} (h:0<q):(((q:Nat):Int):Rat)≠0:=by have:=natpos h;grind
theorem rq_low {p:Int} {q:Nat} (hq:0<q):rq (lowS p q)=(p:Rat) / (((q:Nat):Int):Rat):=by
 obtain ⟨g,hg,e1,e2,h3,_⟩:=low_read p hq
 unfold rq
 generalize qn (lowS p q)=a at *
 generalize qd (lowS p q)=b at *
 subst e1 e2
 rw [Rat.intCast_mul,Int.natCast_mul,Rat.intCast_mul]
 exact (frac_cancel _ _ _ (natne hg) (natne h3)).symm
theorem rq_int (n:Int):rq (decI n)=(n:Rat):=by
 rw [← low_int,rq_low (by omega)]
 have:(((1:Nat):Int):Rat)=1:=rfl
 rw [this];grind
theorem rq_add {a b:Str} (h:addQE a b=0):rightQ (addQS a b)=true∧rq (addQS a b)=rq a+rq b:=by
 have hf:=addQ_fr h
 rw [hf.2.2.2]
 have p1:=qd_pos hf.1
 have p2:=qd_pos hf.2.1
 refine ⟨hf.2.2.1.right (Nat.le_refl _),?_⟩
 rw [rq_low hf.2.2.1.1]
 unfold rq
 rw [Rat.intCast_add,Rat.intCast_mul,Rat.intCast_mul,Int.natCast_mul,Rat.intCast_mul]
 exact frac_add _ _ _ _ (natne p1) (natne p2)
theorem rq_mul {a b:Str} (h:mulQE a b=0):rightQ (mulQS a b)=true∧rq (mulQS a b)=rq a*rq b:=by
 have hf:=mulQ_fr h
 rw [hf.2.2.2]
 have p1:=qd_pos hf.1
 have p2:=qd_pos hf.2.1
 refine ⟨hf.2.2.1.right (Nat.le_refl _),?_⟩
 rw [rq_low hf.2.2.1.1]
 unfold rq
 rw [Rat.intCast_mul,Int.natCast_mul,Rat.intCast_mul]
 exact frac_mul _ _ _ _ (natne p1) (natne p2)
theorem rq_lt {a b:Str} (ha:rightQ a=true) (hb:rightQ b=true):rq a<rq b↔qn a*qd b<qn b*qd a:=by
 unfold rq
 rw [frac_lt _ _ _ _ (natpos (qd_pos ha)) (natpos (qd_pos hb)),← Rat.intCast_mul,← Rat.intCast_mul]
 exact Rat.intCast_lt_intCast
theorem cmpQ_rat {a b:Str} (ha:rightQ a=true) (hb:rightQ b=true):(cmpQ a b<0↔rq a<rq b)∧(0<cmpQ a b↔rq b<rq a):=by
 have e:cmpQ a b=ordI (qn a*qd b) (qn b*qd a):=by unfold cmpQ;rw [if_pos (errQ_zero.2 ⟨ha,hb⟩)]
 rw [rq_lt ha hb,rq_lt hb ha,e]
 unfold ordI
 constructor
 ·split
  ·simp_all
  ·split <;> simp_all
 ·split
  ·constructor
   ·intro h;omega
   ·intro h;omega
  ·split <;> simp_all
theorem rq_inj {a b:Str} (ha:rightQ a=true) (hb:rightQ b=true) (h:rq a=rq b):a=b:=by
 have h1:=frac_eq _ _ _ _ (natne (qd_pos ha)) (natne (qd_pos hb)) h
 rw [← Rat.intCast_mul,← Rat.intCast_mul] at h1
 have h2:=Rat.intCast_inj.1 h1
 rw [(fr_right ha).1,(fr_right hb).1]
 exact lowS_eq (qd_pos ha) (qd_pos hb) h2
theorem cmpQ_zero' (a:Str):cmpQ a [48]=signQ a:=by
 unfold cmpQ signQ
 have h0:qn [48]=0:=by decide
 have h1:qd [48]=1:=by decide
 by_cases h:rightQ a=true
 ·rw [if_pos (errQ_zero.2 ⟨h,by decide +kernel⟩),if_pos h,h0,h1,Int.zero_mul,Int.natCast_one,Int.mul_one]
 ·rw [if_neg (fun e=>h (errQ_zero.1 e).1),if_neg h]
theorem signQ_rat {a:Str} (ha:rightQ a=true):(signQ a<0↔rq a<0)∧(0<signQ a↔0<rq a):=by
 rw [← cmpQ_zero' a]
 have h0:rq [48]=0:=by
  have:=rq_int 0
  rw [decI_zero] at this
  rw [this];rfl
 have:=cmpQ_rat ha (b:=[48]) (by decide +kernel)
 rw [h0] at this
 exact this
def dot:List Int→List Rat→Rat
 |n :: ns,x :: xs=>(n:Rat)*x+dot ns xs
 |_,_=>0
theorem fold_rat {s:Str} (hs:rightQ s=true) (ns:List Int) (xs:List Str) (h:(foldT s ns xs).2=0):rightQ (foldT s ns xs).1=true∧rq (foldT s ns xs).1=rq s+dot ns (xs.map rq):=by
 induction ns generalizing s xs with
 |nil=>unfold foldT dot;exact ⟨hs,by grind⟩
 |cons n ns ih =>
  cases xs with
  |nil=>unfold foldT dot;exact ⟨hs,by grind⟩
  |cons x xs =>
   unfold foldT at h ⊢
   by_cases h1:mulQE (decI n) x=0
   ·rw [if_pos h1] at h ⊢
    by_cases h2:addQE s (mulQS (decI n) x)=0
    ·rw [if_pos h2] at h ⊢
     have hm:=rq_mul h1
     have ha:=rq_add h2
     have:=ih ha.1 xs h
     refine ⟨this.1,?_⟩
     rw [this.2,ha.2,hm.2,rq_int]
     show _=rq s+((n:Rat)*rq x+dot ns (xs.map rq))
     grind
    ·rw [if_neg h2] at h;exact absurd h h2
   ·rw [if_neg h1] at h;exact absurd h h1
theorem times_rat {ns:List Int} {xs:List Str} (h:(timesQ ns xs).2=0):ns.length=xs.length∧xs.all rightQ=true∧rightQ (timesQ ns xs).1=true∧rq (timesQ ns xs).1=dot ns (xs.map rq):=by
 unfold timesQ at h ⊢
 by_cases h1:ns.length=xs.length
 ·rw [if_pos h1] at h ⊢
  by_cases h2:xs.all rightQ=true
  ·rw [if_pos h2] at h ⊢
   have:=fold_rat (s:=[48]) (by decide +kernel) ns xs h
   refine ⟨h1,h2,this.1,?_⟩
   have h0:rq [48]=0:=by
    have:=rq_int 0
    rw [decI_zero] at this
    rw [this];rfl
   rw [this.2,h0];grind
  ·rw [if_neg h2] at h;exact absurd h (by decide)
 ·rw [if_neg h1] at h;exact absurd h (by decide)
end Num
end Go.Proofs.YtljekdpgjaahjaaGreatDoor
namespace Go.Proofs.YtljekdpgjaahjaaGreatDoor
namespace Num
set_option linter.unusedVariables false
def sumN:Nat→(Nat→Rat)→Rat
 |0,_=>0
 |n+1,f=>sumN n f+f n
theorem sumN_congr {n:Nat} {f g:Nat→Rat} (h:∀ i,i<n→f i=g i):sumN n f=sumN n g:=by
 induction n with
 |zero=>rfl
 |succ n ih=>unfold sumN;rw [ih (fun i hi=>h i (by omega)),h n (by omega)]
theorem sumN_le {n:Nat} {f g:Nat→Rat} (h:∀ i,i<n→f i≤g i):sumN n f≤sumN n g:=by
 induction n with
 |zero=>exact Rat.le_refl
 |succ n ih=>unfold sumN;have h1:=ih (fun i hi=>h i (by omega));have h2:=h n (by omega);grind
theorem sumN_add (n:Nat) (f g:Nat→Rat):sumN n (fun i=>f i+g i)=sumN n f+sumN n g:=by
 induction n with
 |zero=>unfold sumN;grind
 |succ n ih=>unfold sumN;rw [ih];grind
theorem sumN_mul (n:Nat) (c:Rat) (f:Nat→Rat):sumN n (fun i=>c*f i)=c*sumN n f:=by
 induction n with
 |zero=>unfold sumN;grind
 |succ n ih=>unfold sumN;rw [ih];grind
theorem sumN_zero (n:Nat):sumN n (fun _=>0)=0:=by
 induction n with
 |zero=>rfl
 |succ n ih=>show sumN n (fun _=>0)+0=0;rw [ih];grind
theorem sumN_swap (n m:Nat) (f:Nat→Nat→Rat):sumN n (fun i=>sumN m (fun j=>f i j))=sumN m (fun j=>sumN n (fun i=>f i j)):=by
 induction n with
 |zero=>exact (sumN_zero m).symm
 |succ n ih =>
  show sumN n (fun i=>sumN m (fun j=>f i j))+sumN m (fun j=>f n j)=sumN m (fun j=>sumN n (fun i=>f i j)+f n j)
  rw [ih,sumN_add]
theorem sumN_front (n:Nat) (f:Nat→Rat):sumN (n+1) f=f 0+sumN n (fun i=>f (i+1)):=by
 induction n with
 |zero=>unfold sumN sumN;grind
 |succ n ih=>rw [sumN,ih,sumN];grind
theorem dot_sum (ns:List Int) (xs:List Rat) (h:ns.length=xs.length):dot ns xs=sumN ns.length (fun i=>((ns.getD i 0:Int):Rat)*xs.getD i 0):=by
 induction ns generalizing xs with
 |nil=>unfold dot;rfl
 |cons n ns ih =>
  cases xs with
  |nil=>exact absurd h (by simp)
  |cons x xs =>
   rw [dot,ih xs (by simpa using h),List.length_cons,sumN_front]
   rfl
def holdsR (k:Int) (l r:Rat):Prop:=if k=1 then l≤r else if k=3 then r≤l else l=r
def signR (k:Int) (d:Rat):Prop:=(k=1→d≤0)∧(k=3→0≤d)
theorem weak (n m:Nat) (cost:Nat→Rat) (coef:Nat→Nat→Rat) (kind:Nat→Int) (right X D:Nat→Rat)
  (hX:∀ i,i<n→0≤X i) (hH:∀ r,r<m→holdsR (kind r) (sumN n (fun i=>coef r i*X i)) (right r)) (hS:∀ r,r<m→signR (kind r) (D r))
  (hB:∀ i,i<n→sumN m (fun r=>coef r i*D r)≤cost i):sumN m (fun r=>right r*D r)≤sumN n (fun i=>cost i*X i):=by
 have h1:sumN m (fun r=>right r*D r)≤sumN m (fun r=>D r*sumN n (fun i=>coef r i*X i)):=by
  refine sumN_le fun r hr=>?_
  have hh:=hH r hr
  have hs:=hS r hr
  generalize sumN n (fun i=>coef r i*X i)=L at hh ⊢
  unfold holdsR at hh
  unfold signR at hs
  by_cases k0:kind r=1
  ·rw [if_pos k0] at hh
   have hd:=hs.1 k0
   have:=Rat.mul_le_mul_of_nonneg_left hh (show 0 ≤ -(D r) by grind)
   grind
  ·rw [if_neg k0] at hh
   by_cases k2:kind r=3
   ·rw [if_pos k2] at hh
    have hd:=hs.2 k2
    have:=Rat.mul_le_mul_of_nonneg_left hh hd
    grind
   ·rw [if_neg k2] at hh
    rw [hh];grind
 have h2:sumN m (fun r=>D r*sumN n (fun i=>coef r i*X i))=sumN n (fun i=>X i*sumN m (fun r=>coef r i*D r)):=by
  rw [sumN_congr (fun r _=>(sumN_mul n (D r) (fun i=>coef r i*X i)).symm),sumN_swap]
  refine sumN_congr fun i _=>?_
  rw [← sumN_mul]
  exact sumN_congr fun r _=>by grind
 have h3:sumN n (fun i=>X i*sumN m (fun r=>coef r i*D r))≤sumN n (fun i=>cost i*X i):=by
  refine sumN_le fun i hi=>?_
  have:=Rat.mul_le_mul_of_nonneg_left (hB i hi) (hX i hi)
  grind
 rw [h2] at h1
 grind
theorem mean_sum (n:Nat) (c X Y Z:Nat→Rat) (h:∀ i,i<n→Z i=(X i+Y i) / 2):sumN n (fun i=>c i*Z i)=(sumN n (fun i=>c i*X i)+sumN n (fun i=>c i*Y i)) / 2:=by
 induction n with
 |zero=>unfold sumN;grind
 |succ n ih =>
  show sumN n (fun i=>c i*Z i)+c n*Z n=((sumN n (fun i=>c i*X i)+c n*X n)+(sumN n (fun i=>c i*Y i)+c n*Y n)) / 2
  rw [ih (fun i hi=>h i (by omega)),h n (by omega)];grind
theorem mean_holds {k:Int} {a b r:Rat} (ha:holdsR k a r) (hb:holdsR k b r):holdsR k ((a+b) / 2) r:=by
 unfold holdsR at *
 by_cases k0:k=1
 ·rw [if_pos k0] at *;grind
 ·rw [if_neg k0] at *
  by_cases k2:k=3
  ·rw [if_pos k2] at *;grind
  ·rw [if_neg k2] at *;grind
end Num
end Go.Proofs.YtljekdpgjaahjaaGreatDoor
namespace Go.Proofs.YtljekdpgjaahjaaGreatDoor
namespace Num
set_option linter.unusedVariables false
structure RowL where
 coef:List Int
 kind:Int
 right:Int
structure LinL where
 cost:List Int
 rows:List RowL
def holdsB (k c:Int):Bool:=if k=1 then decide (c≤0) else if k=3 then decide (0≤c) else decide (c=0)
def rowB (r:RowL) (xs:List Str):Bool:=decide ((timesQ r.coef xs).2=0) && holdsB r.kind (cmpQ (timesQ r.coef xs).1 (decI r.right))
def posB (x:Str):Bool:=rightQ x && decide (0≤signQ x)
def fitsB (p:LinL) (xs:List Str):Bool:=decide (xs.length=p.cost.length) && xs.all posB && p.rows.all (fun r=>rowB r xs)
def signB (r:RowL) (d:Str):Bool:=rightQ d && !(decide (r.kind=1) && decide (0<signQ d)) && !(decide (r.kind=3) && decide (signQ d<0))
def signsB (p:LinL) (ds:List Str):Bool:=decide (ds.length=p.rows.length) && (p.rows.zip ds).all (fun q=>signB q.1 q.2)
def col (p:LinL) (i:Nat):List Int:=p.rows.map fun r=>r.coef.getD i 0
def rightsL (p:LinL):List Int:=p.rows.map fun r=>r.right
def colB (p:LinL) (ds:List Str) (lim:List Int) (i:Nat):Bool:=decide ((timesQ (col p i) ds).2=0) && decide (cmpQ (timesQ (col p i) ds).1 (decI (lim.getD i 0))≤0)
def belowB (p:LinL) (ds:List Str) (lim:List Int):Bool:=(List.range p.cost.length).all (colB p ds lim)
def provesB (p:LinL) (ds:List Str):Bool:=signsB p ds && belowB p ds p.cost && decide ((timesQ (rightsL p) ds).2=0)
def provesS (p:LinL) (ds:List Str):Str:=if provesB p ds=true then (timesQ (rightsL p) ds).1 else []
def refutesB (p:LinL) (ds:List Str):Bool:=signsB p ds && belowB p ds [] && decide ((timesQ (rightsL p) ds).2=0) && decide (0<signQ (timesQ (rightsL p) ds).1)
def wfL (p:LinL):Prop:=(∀ r ∈ p.rows,r.coef.length=p.cost.length∧fits r.right)∧∀ n ∈ p.cost,fits n
theorem rightQ_decI {n:Int} (h:fits n):rightQ (decI n)=true:=by
 have h2:dl n≤20:=by
  rw [dl_le (by omega)]
  obtain ⟨h3,h4⟩:=h
  omega
 rw [← low_int]
 exact (Fr.int (k:=4096) (by omega) (by omega)).right (Nat.le_refl _)
def rowAt (p:LinL) (r:Nat):RowL:=p.rows.getD r ⟨[],0,0⟩
def rat (xs:List Str) (i:Nat):Rat:=(xs.map rq).getD i 0
theorem rat_get {xs:List Str} {i:Nat} (h:i<xs.length):rat xs i=rq xs[i]:=by
 unfold rat;rw [List.getD_eq_getElem?_getD,List.getElem?_map,List.getElem?_eq_getElem h];rfl
theorem times_sum {ns:List Int} {xs:List Str} (h:(timesQ ns xs).2=0):ns.length=xs.length∧rightQ (timesQ ns xs).1=true∧rq (timesQ ns xs).1=sumN ns.length (fun i=>((ns.getD i 0:Int):Rat)*rat xs i):=by
 have ht:=times_rat h
 refine ⟨ht.1,ht.2.2.1,?_⟩
 rw [ht.2.2.2,dot_sum _ _ (by rw [List.length_map];exact ht.1)]
 rfl
theorem holds_rat {k:Int} {t:Str} {r:Int} (ht:rightQ t=true) (hr:fits r) (h:holdsB k (cmpQ t (decI r))=true):holdsR k (rq t) (r:Rat):=by
 have hc:=cmpQ_rat ht (rightQ_decI hr)
 rw [rq_int] at hc
 generalize cmpQ t (decI r)=c at *
 unfold holdsB at h
 unfold holdsR
 by_cases k0:k=1
 ·rw [if_pos k0] at *
  have h1:c≤0:=by simpa using h
  have h2:¬ ((r:Rat)<rq t):=fun h3=>by have:=hc.2.2 h3;omega
  grind
 ·rw [if_neg k0] at *
  by_cases k2:k=3
  ·rw [if_pos k2] at *
   have h1:0≤c:=by simpa using h
   have h2:¬ (rq t<(r:Rat)):=fun h3=>by have:=hc.1.2 h3;omega
   grind
  ·rw [if_neg k2] at *
   have h1:c=0:=by simpa using h
   have h2:¬ (rq t<(r:Rat)):=fun h3=>by have:=hc.1.2 h3;omega
   have h4:¬ ((r:Rat)<rq t):=fun h3=>by have:=hc.2.2 h3;omega
   grind
theorem holds_text {k:Int} {t:Str} {r:Int} (ht:rightQ t=true) (hr:fits r) (h:holdsR k (rq t) (r:Rat)):holdsB k (cmpQ t (decI r))=true:=by
 have hc:=cmpQ_rat ht (rightQ_decI hr)
 rw [rq_int] at hc
 generalize cmpQ t (decI r)=c at *
 unfold holdsR at h
 unfold holdsB
 by_cases k0:k=1
 ·rw [if_pos k0] at *
  have h2:¬ 0<c:=fun h3=>by have:=hc.2.1 h3;grind
  simp;omega
 ·rw [if_neg k0] at *
  by_cases k2:k=3
  ·rw [if_pos k2] at *
   have h2:¬ c<0:=fun h3=>by have:=hc.1.1 h3;grind
   simp;omega
  ·rw [if_neg k2] at *
   have h2:¬ c<0:=fun h3=>by have:=hc.1.1 h3;grind
   have h4:¬ 0<c:=fun h3=>by have:=hc.2.1 h3;grind
   simp;omega
theorem rowAt_eq {p:LinL} {r:Nat} (h:r<p.rows.length):rowAt p r=p.rows[r]:=by
 unfold rowAt;rw [List.getD_eq_getElem?_getD,List.getElem?_eq_getElem h];rfl
theorem col_get {p:LinL} {i r:Nat} (h:r<p.rows.length):(col p i).getD r 0=(rowAt p r).coef.getD i 0:=by
 rw [rowAt_eq h];unfold col;rw [List.getD_eq_getElem?_getD,List.getElem?_map,List.getElem?_eq_getElem h];rfl
theorem rights_get {p:LinL} {r:Nat} (h:r<p.rows.length):(rightsL p).getD r 0=(rowAt p r).right:=by
 rw [rowAt_eq h];unfold rightsL;rw [List.getD_eq_getElem?_getD,List.getElem?_map,List.getElem?_eq_getElem h];rfl
theorem fits_rat {p:LinL} {xs:List Str} (hw:wfL p) (h:fitsB p xs=true):xs.length=p.cost.length∧(∀ i,i<p.cost.length→0≤rat xs i) ∧
  ∀ r,r<p.rows.length→holdsR (rowAt p r).kind (sumN p.cost.length (fun i=>(((rowAt p r).coef.getD i 0:Int):Rat)*rat xs i)) (((rowAt p r).right:Int):Rat):=by
 unfold fitsB at h
 simp only [Bool.and_eq_true,decide_eq_true_eq] at h
 obtain ⟨⟨hl,hx⟩,hr⟩:=h
 rw [List.all_eq_true] at hx hr
 refine ⟨hl,fun i hi=>?_,fun r hlt=>?_⟩
 ·have hi':i<xs.length:=by omega
  rw [rat_get hi']
  have h1:=hx xs[i] (List.getElem_mem hi')
  unfold posB at h1
  simp only [Bool.and_eq_true,decide_eq_true_eq] at h1
  have h2:=signQ_rat h1.1
  have h3:¬ rq xs[i]<0:=fun h3=>by have:=h2.1.2 h3;omega
  grind
 ·rw [rowAt_eq hlt]
  have hm:=List.getElem_mem hlt
  have h1:=hr _ hm
  have h2:=hw.1 _ hm
  generalize p.rows[r]=R at *
  unfold rowB at h1
  simp only [Bool.and_eq_true,decide_eq_true_eq] at h1
  have h3:=times_sum h1.1
  have h4:=holds_rat h3.2.1 h2.2 h1.2
  rw [h3.2.2,h2.1] at h4
  exact h4
theorem bound_rat {p:LinL} {xs ds:List Str} {lim:List Int} (hw:wfL p) (hf:fitsB p xs=true) (hlim:∀ i,fits (lim.getD i 0)) (hs:signsB p ds=true) (hb:belowB p ds lim=true) (hk:(timesQ (rightsL p) ds).2=0) :
  rightQ (timesQ (rightsL p) ds).1=true∧rq (timesQ (rightsL p) ds).1≤sumN p.cost.length (fun i=>((lim.getD i 0:Int):Rat)*rat xs i):=by
 have hF:=fits_rat hw hf
 have hB:=times_sum hk
 unfold signsB at hs
 simp only [Bool.and_eq_true,decide_eq_true_eq] at hs
 obtain ⟨hdl,hs⟩:=hs
 rw [List.all_eq_true] at hs
 unfold belowB at hb
 rw [List.all_eq_true] at hb
 refine ⟨hB.2.1,?_⟩
 rw [hB.2.2]
 have hrl:(rightsL p).length=p.rows.length:=by unfold rightsL;rw [List.length_map]
 rw [hrl,sumN_congr (g:=fun r=>(((rowAt p r).right:Int):Rat)*rat ds r) (fun r hr=>by rw [rights_get hr])]
 refine weak p.cost.length p.rows.length (fun i=>((lim.getD i 0:Int):Rat)) (fun r i=>(((rowAt p r).coef.getD i 0:Int):Rat)) (fun r=>(rowAt p r).kind) (fun r=>(((rowAt p r).right:Int):Rat)) (rat xs) (rat ds) hF.2.1 hF.2.2 ?_ ?_
 ·intro r hr
  have hr':r<ds.length:=by omega
  have hm:(p.rows[r],ds[r]) ∈ p.rows.zip ds:=by
   rw [← List.getElem_zip (h:=by rw [List.length_zip];omega)]
   exact List.getElem_mem _
  have h1:=hs _ hm
  rw [rowAt_eq hr,rat_get hr']
  unfold signB at h1
  simp only [Bool.and_eq_true,Bool.not_eq_true',Bool.and_eq_false_iff,decide_eq_false_iff_not] at h1
  obtain ⟨⟨hd,h2⟩,h3⟩:=h1
  have hsg:=signQ_rat hd
  constructor
  ·intro k
   rcases h2 with h2 | h2
   ·exact absurd k h2
   ·have:¬ 0<rq ds[r]:=fun h=>h2 (hsg.2.2 h)
    grind
  ·intro k
   rcases h3 with h3 | h3
   ·exact absurd k h3
   ·have:¬ rq ds[r]<0:=fun h=>h3 (hsg.1.2 h)
    grind
 ·intro i hi
  have h1:=hb i (List.mem_range.2 hi)
  unfold colB at h1
  simp only [Bool.and_eq_true,decide_eq_true_eq] at h1
  have h2:=times_sum h1.1
  have hcl:(col p i).length=p.rows.length:=by unfold col;rw [List.length_map]
  rw [hcl,sumN_congr (g:=fun r=>(((rowAt p r).coef.getD i 0:Int):Rat)*rat ds r) (fun r hr=>by rw [col_get hr])] at h2
  have h3:=cmpQ_rat h2.2.1 (rightQ_decI (hlim i))
  rw [rq_int] at h3
  show sumN p.rows.length (fun r=>(((rowAt p r).coef.getD i 0:Int):Rat)*rat ds r)≤((lim.getD i 0:Int):Rat)
  rw [← h2.2.2]
  have h4:¬ ((lim.getD i 0:Int):Rat)<rq (timesQ (col p i) ds).1:=fun h=>by have:=h3.2.2 h;omega
  grind
theorem fits_zero:fits 0:=by constructor <;> decide
theorem cost_fits {p:LinL} (hw:wfL p) (i:Nat):fits (p.cost.getD i 0):=by
 rw [List.getD_eq_getElem?_getD]
 rcases Nat.lt_or_ge i p.cost.length with h | h
 ·rw [List.getElem?_eq_getElem h];exact hw.2 _ (List.getElem_mem h)
 ·rw [List.getElem?_eq_none h];exact fits_zero
theorem weak_refutes {p:LinL} {xs ds:List Str} (hw:wfL p) (hf:fitsB p xs=true):refutesB p ds=false:=by
 cases h:refutesB p ds
 ·rfl
 ·exfalso
  unfold refutesB at h
  simp only [Bool.and_eq_true,decide_eq_true_eq] at h
  obtain ⟨⟨⟨h1,h2⟩,h3⟩,h4⟩:=h
  have hb:=bound_rat hw hf (lim:=[]) (fun i=>by simpa using fits_zero) h1 h2 h3
  have hz:sumN p.cost.length (fun i=>(((([]:List Int).getD i 0):Int):Rat)*rat xs i)=0:=by
   rw [← sumN_zero p.cost.length]
   refine sumN_congr fun i _=>?_
   rw [show ([]:List Int).getD i 0=0 by simp]
   have:((0:Int):Rat)=0:=rfl
   rw [this];grind
  rw [hz] at hb
  have:=(signQ_rat hb.1).2.1 h4
  have h9:=hb.2
  grind
theorem weak_proves {p:LinL} {xs ds:List Str} (hw:wfL p) (hf:fitsB p xs=true) (hp:provesB p ds=true) (hv:(timesQ p.cost xs).2=0):¬ cmpQ (timesQ p.cost xs).1 (provesS p ds)<0:=by
 have hS:provesS p ds=(timesQ (rightsL p) ds).1:=by unfold provesS;rw [if_pos hp]
 rw [hS]
 unfold provesB at hp
 simp only [Bool.and_eq_true,decide_eq_true_eq] at hp
 obtain ⟨⟨h1,h2⟩,h3⟩:=hp
 have hb:=bound_rat hw hf (cost_fits hw) h1 h2 h3
 have hvs:=times_sum hv
 rw [← hvs.2.2] at hb
 intro hc
 have:=(cmpQ_rat hvs.2.1 hb.1).1.1 hc
 have h9:=hb.2
 grind
end Num
end Go.Proofs.YtljekdpgjaahjaaGreatDoor
namespace Go.Proofs.YtljekdpgjaahjaaGreatDoor
namespace Num
set_option linter.unusedVariables false
def FrT (k:Nat) (s:Str):Prop:=∃ p q,Fr k p q∧s=lowS p q
theorem FrT.mono {k m:Nat} {s:Str} (h:FrT k s) (hk:k≤m):FrT m s:=by obtain ⟨p,q,hf,e⟩:=h;exact ⟨p,q,hf.mono hk,e⟩
theorem frT_of {s:Str} {k:Nat} (h:rightQ s=true) (hl:s.length≤k):FrT k s:=⟨_,_,fr_of h hl,(fr_right h).1⟩
theorem frT_int {n:Int} (h:fits n):FrT 20 (decI n):=by
 have h2:dl n≤20:=by
  rw [dl_le (by omega)]
  obtain ⟨h3,h4⟩:=h
  omega
 exact ⟨n,1,Fr.int (by omega) h2,(low_int n).symm⟩
theorem FrT.right {k:Nat} {s:Str} (h:FrT k s) (hk:k≤4096):rightQ s=true:=by obtain ⟨p,q,hf,rfl⟩:=h;exact hf.right hk
theorem FrT.len {k:Nat} {s:Str} (h:FrT k s):s.length≤2*k+2:=by obtain ⟨p,q,hf,rfl⟩:=h;exact fr_len2 hf
theorem FrT.add {k m:Nat} {a b:Str} (ha:FrT k a) (hb:FrT m b) (hk:k+m+1≤4096):addQE a b=0∧FrT (k+m+1) (addQS a b):=by
 obtain ⟨p,q,hf,rfl⟩:=ha
 obtain ⟨r,s,hg,rfl⟩:=hb
 have h:=addQ_low hf hg hk
 exact ⟨h.1,_,_,hf.add hg,h.2⟩
theorem FrT.mul {k m:Nat} {a b:Str} (ha:FrT k a) (hb:FrT m b) (hk:k+m+1≤4096):mulQE a b=0∧FrT (k+m) (mulQS a b):=by
 obtain ⟨p,q,hf,rfl⟩:=ha
 obtain ⟨r,s,hg,rfl⟩:=hb
 have h:=mulQ_low hf hg hk
 exact ⟨h.1,_,_,hf.mul hg,h.2⟩
theorem frT_zero:FrT 1 [48]:=⟨0,1,Fr.int (by omega) (by decide +kernel),by rw [low_int];exact decI_zero.symm⟩
theorem fold_ok {K:Nat} (ns:List Int):∀ (xs:List Str) (s:Str) (k:Nat),FrT k s→(∀ n ∈ ns,fits n)→(∀ x ∈ xs,FrT K x)→k+ns.length*(21+K)≤4096 →
  (foldT s ns xs).2=0∧FrT (k+ns.length*(21+K)) (foldT s ns xs).1:=by
 induction ns with
 |nil=>intro xs s k hs _ _ _;unfold foldT;exact ⟨rfl,hs.mono (by omega)⟩
 |cons n ns ih =>
  intro xs s k hs hn hx hk
  cases xs with
  |nil=>unfold foldT;exact ⟨rfl,hs.mono (by omega)⟩
  |cons x xs =>
   rw [List.length_cons,Nat.add_mul,Nat.one_mul] at hk
   have hm:=(frT_int (hn n (by simp))).mul (hx x (by simp)) (by omega)
   have ha:=hs.add hm.2 (by omega)
   have h:=ih xs _ _ ha.2 (fun n h=>hn n (by simp [h])) (fun x h=>hx x (by simp [h])) (by omega)
   unfold foldT
   rw [if_pos hm.1,if_pos ha.1]
   exact ⟨h.1,h.2.mono (by rw [List.length_cons,Nat.add_mul,Nat.one_mul];omega)⟩
theorem times_ok {K:Nat} {ns:List Int} {xs:List Str} (hl:ns.length=xs.length) (hn:∀ n ∈ ns,fits n) (hx:∀ x ∈ xs,FrT K x) (hK:K≤4096) (hk:1+ns.length*(21+K)≤4096) :
  (timesQ ns xs).2=0∧FrT (1+ns.length*(21+K)) (timesQ ns xs).1:=by
 unfold timesQ
 rw [if_pos hl,if_pos (List.all_eq_true.2 fun x h=>(hx x h).right hK)]
 exact fold_ok ns xs [48] 1 frT_zero hn hx hk
def halfS (a b:Str):Str:=quoQS (addQS a b) [50]
theorem rq_two:rq [50]=2:=by
 have h2:decI 2=[50]:=by decide +kernel
 have:=rq_int 2
 rw [h2] at this
 rw [this];rfl
theorem half_ok {k m:Nat} {a b:Str} (ha:FrT k a) (hb:FrT m b) (hk:k+m+3≤4096):addQE a b=0∧quoQE (addQS a b) [50]=0∧FrT (k+m+2) (halfS a b)∧rq (halfS a b)=(rq a+rq b) / 2:=by
 have h:=ha.add hb (by omega)
 have hr:=rq_add h.1
 obtain ⟨p,q,hf,e⟩:=h.2
 have h2:Fr 1 2 1:=Fr.int (by omega) (by decide +kernel)
 have e2:([50]:Str)=lowS 2 1:=by rw [low_int];decide +kernel
 have hq:=quoQ_low hf h2 (by omega) (by decide)
 have hp:=hf.1
 have hF:=hf.mul (Fr.mono (p:=1) (q:=2) (k:=1) (m:=1) ⟨by omega,by decide +kernel,by decide +kernel⟩ (Nat.le_refl _))
 have eS:halfS a b=lowS (p*1) (q*2):=by
  unfold halfS
  rw [e,e2,hq.2]
  rw [show (q:Int)*2=((q*2:Nat):Int) by simp,quoS_pos (by omega)]
  simp
 refine ⟨h.1,by rw [e,e2];exact hq.1,?_,?_⟩
 ·rw [eS];exact ⟨_,_,hF,rfl⟩
 ·rw [← hr.2,eS,e,rq_low (by omega),rq_low hp,Int.mul_one,Int.natCast_mul,Rat.intCast_mul]
  have hn:=natne hp
  have:(((2:Nat):Int):Rat)=2:=rfl
  rw [this]
  grind
def halves (xs ys:List Str):List Str:=List.zipWith halfS xs ys
theorem halves_length (xs ys:List Str) (h:xs.length=ys.length):(halves xs ys).length=xs.length:=by unfold halves;rw [List.length_zipWith];omega
theorem mean_fits {p:LinL} {xs ys:List Str} (hw:wfL p) (hc:p.cost.length≤12) (hrn:∀ r ∈ p.rows,∀ n ∈ r.coef,fits n) (hx:fitsB p xs=true) (hy:fitsB p ys=true) (sx:∀ x ∈ xs,x.length≤60) (sy:∀ y ∈ ys,y.length≤60) :
  fitsB p (halves xs ys)=true∧(timesQ p.cost xs).2=0∧(timesQ p.cost ys).2=0∧(timesQ p.cost (halves xs ys)).2=0 ∧
  addQE (timesQ p.cost xs).1 (timesQ p.cost ys).1=0∧quoQE (addQS (timesQ p.cost xs).1 (timesQ p.cost ys).1) [50]=0∧halfS (timesQ p.cost xs).1 (timesQ p.cost ys).1=(timesQ p.cost (halves xs ys)).1:=by
 have fx:=fits_rat hw hx
 have fy:=fits_rat hw hy
 have right_of:∀ zs,fitsB p zs=true→∀ z ∈ zs,rightQ z=true:=by
  intro zs h z hz
  unfold fitsB at h
  simp only [Bool.and_eq_true] at h
  have h1:=(List.all_eq_true.1 h.1.2) z hz
  unfold posB at h1
  simp only [Bool.and_eq_true] at h1
  exact h1.1
 have tx:∀ x ∈ xs,FrT 60 x:=fun x h=>frT_of (right_of xs hx x h) (sx x h)
 have ty:∀ y ∈ ys,FrT 60 y:=fun y h=>frT_of (right_of ys hy y h) (sy y h)
 have hl:xs.length=ys.length:=by rw [fx.1,fy.1]
 have hzl:=halves_length xs ys hl
 have zget:∀ i (hi:i<xs.length),(halves xs ys)[i]'(by omega)=halfS xs[i] (ys[i]'(by omega)):=by
  intro i hi;unfold halves;rw [List.getElem_zipWith]
 have zok:∀ i (hi:i<xs.length),FrT 122 (halfS xs[i] (ys[i]'(by omega)))∧rq (halfS xs[i] (ys[i]'(by omega)))=(rq xs[i]+rq (ys[i]'(by omega))) / 2:=by
  intro i hi
  have:=half_ok (tx _ (List.getElem_mem hi)) (ty _ (List.getElem_mem (show i<ys.length by omega))) (by omega)
  exact ⟨this.2.2.1,this.2.2.2⟩
 have tz:∀ z ∈ halves xs ys,FrT 122 z:=by
  intro z hz
  obtain ⟨i,hi,rfl⟩:=List.getElem_of_mem hz
  rw [zget i (by omega)]
  exact (zok i (by omega)).1
 have zrat:∀ i,i<p.cost.length→rat (halves xs ys) i=(rat xs i+rat ys i) / 2:=by
  intro i hi
  have h1:i<xs.length:=by omega
  rw [rat_get (show i<(halves xs ys).length by omega),rat_get h1,rat_get (show i<ys.length by omega),zget i h1,(zok i h1).2]
 have bnd:p.cost.length*(21+122)≤12*(21+122):=Nat.mul_le_mul_right _ hc
 have bnd2:p.cost.length*(21+60)≤12*(21+60):=Nat.mul_le_mul_right _ hc
 have vx:=times_ok (K:=60) (fx.1.symm) hw.2 tx (by omega) (by omega)
 have vy:=times_ok (K:=60) (fy.1.symm) hw.2 ty (by omega) (by omega)
 have vz:=times_ok (K:=122) (show p.cost.length=(halves xs ys).length by omega) hw.2 tz (by omega) (by omega)
 have hh:=half_ok vx.2 vy.2 (by omega)
 have mx:=(times_sum vx.1).2.2
 have my:=(times_sum vy.1).2.2
 have mz:=(times_sum vz.1).2.2
 refine ⟨?_,vx.1,vy.1,vz.1,hh.1,hh.2.1,?_⟩
 ·unfold fitsB
  simp only [Bool.and_eq_true,decide_eq_true_eq]
  refine ⟨⟨by omega,?_⟩,?_⟩
  ·rw [List.all_eq_true]
   intro z hz
   obtain ⟨i,hi,rfl⟩:=List.getElem_of_mem hz
   have h1:=tz _ hz
   have hr:=h1.right (by omega)
   unfold posB
   rw [hr,Bool.true_and,decide_eq_true_eq]
   have h2:=zrat i (by omega)
   rw [rat_get hi] at h2
   have h3:=fx.2.1 i (by omega)
   have h4:=fy.2.1 i (by omega)
   have h5:=signQ_rat hr
   by_cases h6:signQ (halves xs ys)[i]<0
   ·have:=h5.1.1 h6;grind
   ·omega
  ·rw [List.all_eq_true]
   intro r hr
   have hrl:=hw.1 r hr
   have t:=times_ok (K:=122) (show r.coef.length=(halves xs ys).length by omega) (hrn r hr) tz (by omega) (by rw [hrl.1];omega)
   unfold rowB
   simp only [Bool.and_eq_true,decide_eq_true_eq]
   refine ⟨t.1,holds_text (t.2.right (by rw [hrl.1];omega)) hrl.2 ?_⟩
   obtain ⟨i,hi,rfl⟩:=List.getElem_of_mem hr
   have h1:=fx.2.2 i hi
   have h2:=fy.2.2 i hi
   rw [rowAt_eq hi] at h1 h2
   have ms:=(times_sum t.1).2.2
   rw [ms,hrl.1,mean_sum p.cost.length (fun j=>(((p.rows[i].coef.getD j 0:Int)):Rat)) (rat xs) (rat ys) (rat (halves xs ys)) zrat]
   exact mean_holds h1 h2
 ·refine rq_inj (hh.2.2.1.right (by omega)) (vz.2.right (by omega)) ?_
  rw [hh.2.2.2,mx,my,mz,mean_sum p.cost.length (fun j=>(((p.cost.getD j 0:Int)):Rat)) (rat xs) (rat ys) (rat (halves xs ys)) zrat]
end Num
end Go.Proofs.YtljekdpgjaahjaaGreatDoor

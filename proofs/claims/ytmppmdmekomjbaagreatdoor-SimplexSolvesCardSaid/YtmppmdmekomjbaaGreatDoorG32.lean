/- The simplex method with the rule of the least index ends: plain. -/
import Derived.Test.YtmppmdmekomjbaaGreatDoorG19
import Derived.Test.YtmppmdmekomjbaaGreatDoorG14
namespace Go.Proofs.YtmppmdmekomjbaaGreatDoor
namespace Num
set_option linter.unusedVariables false
section
variable {m N:Nat} {R:Nat→Nat→Int} {T T':Mx} {b b':Nat→Nat}
theorem Tb.between (h:Tb m N R T b) (h':Tb m N R T' b') {i c:Nat} (hi:i<m) (hc:c<N):T' i c=sumR (fun l=>T l c*T' i (b l)) m:=by
 have hv:Ker m N T (fun x=>1*kron x c + -1*sumR (fun l=>T l c*kron x (b l)) m):=by
  intro k hk
  rw [mulV_lin2,mulV_kron _ _ hc,mulV_sum _ _ _ _ _ (fun l hl=>h.col l hl)]
  rw [sumR_one (k:=k) hk fun l hl hne=>by
   show T l c*T k (b l)=0
   rw [h.base k l hk hl];unfold kron;rw [if_neg (fun e=>hne e.symm)];grind,h.base k k hk hk]
  unfold kron;rw [if_pos rfl];grind
 have:=((h'.ker _).1 ((h.ker _).2 hv)) i hi
 rw [mulV_lin2,mulV_kron _ _ hc,mulV_sum _ _ _ _ _ (fun l hl=>h.col l hl)] at this
 grind
theorem Tb.same (h:Tb m N R T b) (h':Tb m N R T' b') (hb:∀ l,l<m→b' l=b l) {i c:Nat} (hi:i<m) (hc:c<N):T' i c=T i c:=by
 rw [h.between h' hi hc,sumR_one (k:=i) hi fun l hl hne=>by
  show T l c*T' i (b l)=0
  rw [← hb l hl,h'.base i l hi hl];unfold kron;rw [if_neg (fun e=>hne e.symm)];grind]
 rw [← hb i hi,h'.base i i hi hi]
 unfold kron;rw [if_pos rfl];grind
end
structure Feas (m N cols rhs z:Nat) (R:Nat→Nat→Int) (T:Mx) (b:Nat→Nat):Prop where
 tab:Tb (m+1) N R T b
 top:b m=z
 pos:∀ i,i<m→0≤T i rhs
structure Piv1 (m cols rhs:Nat) (T:Mx) (b:Nat→Nat) (c r:Nat):Prop where
 lt:c<cols
 neg:T m c<0
 least:∀ k,k<c→0≤T m k
 row:r<m
 up:0<T r c
 ratio:∀ i,i<m→0<T i c→T r rhs / T r c<T i rhs / T i c∨(T r rhs / T r c=T i rhs / T i c∧b r≤b i)
theorem div_nonneg {a c:Rat} (ha:0≤a) (hc:0<c):0≤a / c:=by
 rw [Rat.div_def]
 exact Rat.mul_nonneg ha (Rat.le_of_lt (Rat.inv_pos.2 hc))
theorem div_zero_of {a c:Rat} (hc:0<c) (h:a / c=0):a=0:=by
 have:a=a / c*c:=by grind
 rw [this,h];grind
section
variable {m N cols rhs z:Nat} {R:Nat→Nat→Int} {T:Mx} {b:Nat→Nat} {c r:Nat}
theorem Feas.theta (h:Feas m N cols rhs z R T b) (hp:Piv1 m cols rhs T b c r):0≤T r rhs / T r c:=div_nonneg (h.pos r hp.row) hp.up
theorem Feas.next (h:Feas m N cols rhs z R T b) (hp:Piv1 m cols rhs T b c r) (hN:cols≤N):Feas m N cols rhs z R (pivM T r c) (fun l=>if l=r then c else b l):=by
 have hne:T r c≠0:=fun e=>by have:=hp.up;rw [e] at this;exact absurd this (by decide)
 refine ⟨h.tab.pivot (Nat.lt_succ_of_lt hp.row) (Nat.lt_of_lt_of_le hp.lt hN) hne,?_,fun i hi=>?_⟩
 ·show (if m=r then c else b m)=z
  rw [if_neg (by have:=hp.row;omega)];exact h.top
 ·have hth:=h.theta hp
  unfold pivM
  by_cases e:i=r
  ·rw [if_pos e];exact hth
  ·rw [if_neg e]
   have h0:=h.pos i hi
   by_cases hc:0<T i c
   ·have h1:T r rhs / T r c≤T i rhs / T i c:=by
     rcases hp.ratio i hi hc with h2 | h2
     ·exact Rat.le_of_lt h2
     ·rw [h2.1];exact Rat.le_refl
    have h2:=Rat.mul_le_mul_of_nonneg_left h1 (Rat.le_of_lt hc)
    have h3:T i c*(T i rhs / T i c)=T i rhs:=by
     have:T i c≠0:=fun e=>by rw [e] at hc;exact absurd hc (by decide)
     grind
    grind
   ·have h1:0 ≤ -(T i c):=by rw [Rat.not_lt] at hc;grind
    have:=Rat.mul_nonneg h1 hth
    grind
theorem Feas.value (h:Feas m N cols rhs z R T b) (hp:Piv1 m cols rhs T b c r):pivM T r c m rhs=T m rhs + -(T m c)*(T r rhs / T r c):=by
 unfold pivM
 rw [if_neg (by have:=hp.row;omega)];grind
theorem Feas.rises (h:Feas m N cols rhs z R T b) (hp:Piv1 m cols rhs T b c r):T m rhs≤pivM T r c m rhs:=by
 rw [h.value hp]
 have h1:=hp.neg
 have:=Rat.mul_nonneg (show 0 ≤ -(T m c) by grind) (h.theta hp)
 grind
theorem Feas.fresh (h:Feas m N cols rhs z R T b) (hp:Piv1 m cols rhs T b c r) {l:Nat} (hl:l<m):b l≠c:=by
 intro e
 have h1:=h.tab.base m l (Nat.lt_succ_self m) (Nat.lt_succ_of_lt hl)
 rw [e] at h1
 have h2:=hp.neg
 rw [h1] at h2
 unfold kron at h2
 rw [if_neg (by omega)] at h2
 exact absurd h2 (by decide)
end
structure Chain (m N cols rhs z:Nat) (R:Nat→Nat→Int) (K:Nat) (T:Nat→Mx) (b:Nat→Nat→Nat) (c r:Nat→Nat):Prop where
 first:Feas m N cols rhs z R (T 0) (b 0)
 step:∀ k,k<K→Piv1 m cols rhs (T k) (b k) (c k) (r k)
 nextT:∀ k,k<K→T (k+1)=pivM (T k) (r k) (c k)
 nextb:∀ k,k<K→b (k+1)=fun l=>if l=r k then c k else b k l
theorem sumR_pos {f:Nat→Rat}:∀ (n:Nat),0<sumR f n→∃ l,l<n∧0<f l
 | 0,h=>absurd h (by unfold sumR;decide)
 | n+1,h=>by
  by_cases h1:0<f n
  ·exact ⟨n,Nat.lt_succ_self n,h1⟩
  ·have h2:0<sumR f n:=by
    unfold sumR at h
    rw [Rat.not_lt] at h1
    grind
   obtain ⟨l,hl,h3⟩:=sumR_pos n h2
   exact ⟨l,Nat.lt_succ_of_lt hl,h3⟩
theorem max_of {p:Nat→Prop} {B:Nat} (hB:∀ x,p x→x<B) (h:∃ x,p x):∃ t,p t∧∀ x,p x→x≤t:=by
 induction B with
 | zero=>obtain ⟨x,hx⟩:=h;exact absurd (hB x hx) (Nat.not_lt_zero _)
 | succ B ih =>
  by_cases hb:p B
  ·exact ⟨B,hb,fun x hx=>by have:=hB x hx;omega⟩
  ·exact ih fun x hx=>by
    have:=hB x hx
    have:x≠B:=fun e=>hb (e ▸ hx)
    omega
section
variable {m N cols rhs z K:Nat} {R:Nat→Nat→Int} {T:Nat→Mx} {b:Nat→Nat→Nat} {c r:Nat→Nat}
theorem Chain.feas (h:Chain m N cols rhs z R K T b c r) (hN:cols≤N):∀ k,k≤K→Feas m N cols rhs z R (T k) (b k):=by
 intro k
 induction k with
 | zero=>intro _;exact h.first
 | succ k ih =>
  intro hk
  rw [h.nextT k (by omega),h.nextb k (by omega)]
  exact (ih (by omega)).next (h.step k (by omega)) hN
theorem Chain.mono (h:Chain m N cols rhs z R K T b c r) (hN:cols≤N) {p:Nat}:∀ q,p≤q→q≤K→T p m rhs≤T q m rhs:=by
 intro q
 induction q with
 | zero=>intro h1 _;rw [show p=0 by omega];exact Rat.le_refl
 | succ q ih =>
  intro h1 h2
  by_cases e:p=q+1
  ·rw [e];exact Rat.le_refl
  ·have h3:=ih (by omega) (by omega)
   rw [h.nextT q (by omega)]
   exact Rat.le_trans h3 ((h.feas hN q (by omega)).rises (h.step q (by omega)))
theorem Chain.no_cycle (h:Chain m N cols rhs z R K T b c r) (hN:cols≤N) (hr:rhs<N) {p q:Nat} (hpq:p<q) (hq:q≤K) (hb:∀ l,l<m→b q l=b p l):False:=by
 have hF:=h.feas hN
 have hbm:∀ l,l<m+1→b q l=b p l:=fun l hl=>by
  by_cases e:l=m
  ·rw [e,(hF q hq).top,(hF p (by omega)).top]
  ·exact hb l (by omega)
 have hval:T q m rhs=T p m rhs:=(hF p (by omega)).tab.same (hF q hq).tab hbm (Nat.lt_succ_self m) hr
 have hconst:∀ k,p≤k→k≤q→T k m rhs=T p m rhs:=fun k h1 h2=>by
  have a1:=h.mono hN k h1 (by omega)
  have a2:=h.mono hN q h2 hq
  rw [hval] at a2
  exact Rat.le_antisymm a2 a1
 have hth:∀ k,p≤k→k<q→T k (r k) rhs / T k (r k) (c k)=0:=by
  intro k h1 h2
  have hp1:=h.step k (by omega)
  have hv:=(hF k (by omega)).value hp1
  rw [← h.nextT k (by omega),hconst (k+1) (by omega) (by omega),hconst k h1 (by omega)] at hv
  have hn:=hp1.neg
  generalize T k (r k) rhs / T k (r k) (c k)=y at *
  have h3:-(T k m (c k))*y=0:=by grind
  rcases Rat.mul_eq_zero.1 h3 with h4 | h4
  ·grind
  ·exact h4
 have hz:∀ k,p≤k→k<q→T k (r k) rhs=0:=fun k h1 h2=>div_zero_of (h.step k (by omega)).up (hth k h1 h2)
 have hside:∀ k,p≤k→k≤q→∀ i,i<m→T k i rhs=T p i rhs:=by
  intro k
  induction k with
  | zero=>intro h1 _ i _;rw [show p=0 by omega]
  | succ k ih =>
   intro h1 h2 i hi
   by_cases e:p=k+1
   ·rw [e]
   ·rw [← ih (by omega) (by omega) i hi,h.nextT k (by omega)]
    unfold pivM
    by_cases er:i=r k
    ·rw [if_pos er,hth k (by omega) (by omega),er,hz k (by omega) (by omega)]
    ·rw [if_neg er,hth k (by omega) (by omega)];grind
 have hA:∀ k,k≤q→∀ i,(∃ j,p≤j∧j<k∧r j=i)→∃ j,p≤j∧j<q∧c j=b k i:=by
  intro k
  induction k with
  | zero=>rintro _ i ⟨j,_,hj,_⟩;omega
  | succ k ih =>
   rintro hk i ⟨j,h1,h2,h3⟩
   rw [h.nextb k (by omega)]
   by_cases e:i=r k
   ·refine ⟨k,by omega,by omega,?_⟩
    show c k=if i=r k then c k else b k i
    rw [if_pos e]
   ·obtain ⟨j',h4,h5,h6⟩:=ih (by omega) i ⟨j,h1,by
     by_cases ej:j=k
     ·rw [ej] at h3;exact absurd h3.symm e
     ·omega,h3⟩
    refine ⟨j',h4,h5,?_⟩
    show c j'=if i=r k then c k else b k i
    rw [if_neg e];exact h6
 have hB:∀ k,p≤k→k≤q→∀ i,(∀ j,p≤j→j<k→r j≠i)→b k i=b p i:=by
  intro k
  induction k with
  | zero=>intro h1 _ i _;rw [show p=0 by omega]
  | succ k ih =>
   intro h1 h2 i h3
   by_cases e:p=k+1
   ·rw [e]
   ·rw [← ih (by omega) (by omega) i (fun j a b=>h3 j a (by omega)),h.nextb k (by omega)]
    show (if i=r k then c k else b k i)=b k i
    rw [if_neg (fun er=>h3 k (by omega) (by omega) er.symm)]
 have hC:∀ i,i<m→(∃ j,p≤j∧j<q∧r j=i)→∀ k,p≤k→k≤q→∃ j,p≤j∧j<q∧c j=b k i:=by
  intro i hi hex k h1 h2
  by_cases h3:∃ j,p≤j∧j<k∧r j=i
  ·exact hA k h2 i h3
  ·rw [hB k h1 h2 i (fun j a b e=>h3 ⟨j,a,b,e⟩),← hb i hi]
   exact hA q (Nat.le_refl _) i hex
 obtain ⟨t,⟨u,hu1,hu2,rfl⟩,hmax⟩:=max_of (p:=fun x=>∃ j,p≤j∧j<q∧c j=x) (B:=cols) (by rintro x ⟨j,h1,h2,rfl⟩;exact (h.step j (by omega)).lt) ⟨c p,p,Nat.le_refl _,hpq,rfl⟩
 have hU:=h.step u (by omega)
 have hFU:=hF u (by omega)
 have hleave:∀ y,∀ x,x≤y→y≤q→b x (r u)=c u→b y (r u)≠c u→∃ k,x≤k∧k<y∧b k (r u)=c u∧r k=r u:=by
  intro y
  induction y with
  | zero=>intro x h1 _ h2 h3;rw [show x=0 by omega] at h2;exact absurd h2 h3
  | succ y ih =>
   intro x h1 h2 h3 h4
   by_cases e:x=y+1
   ·rw [e] at h3;exact absurd h3 h4
   ·by_cases h5:b y (r u)=c u
    ·refine ⟨y,by omega,by omega,h5,?_⟩
     rw [h.nextb y (by omega)] at h4
     refine Classical.byContradiction fun h6=>h4 ?_
     show (if r u=r y then c y else b y (r u))=c u
     rw [if_neg (fun e=>h6 e.symm)];exact h5
    ·obtain ⟨k,a1,a2,a3⟩:=ih x (by omega) (by omega) h3 h5
     exact ⟨k,a1,by omega,a3⟩
 have hin:b (u+1) (r u)=c u:=by
  rw [h.nextb u (by omega)]
  show (if r u=r u then c u else b u (r u))=c u
  rw [if_pos rfl]
 have hout:b u (r u)≠c u:=hFU.fresh hU hU.row
 obtain ⟨w,hw1,hw2,hw3,hw4⟩:∃ w,p≤w∧w<q∧b w (r u)=c u∧r w=r u:=by
  by_cases h1:b q (r u)=c u
  ·rw [hb _ hU.row] at h1
   obtain ⟨k,a1,a2,a3⟩:=hleave u p hu1 (by omega) h1 hout
   exact ⟨k,a1,by omega,a3⟩
  ·obtain ⟨k,a1,a2,a3⟩:=hleave q (u+1) hu2 (Nat.le_refl _) hin h1
   exact ⟨k,by omega,a2,a3⟩
 have hW:=h.step w (by omega)
 have hFW:=hF w (by omega)
 have hid:=hFW.tab.between hFU.tab (Nat.lt_succ_self m) (Nat.lt_of_lt_of_le hW.lt hN)
 unfold sumR at hid
 have hone:T u m (b w m)=1:=by
  rw [hFW.top,← hFU.top,hFU.tab.base m m (Nat.lt_succ_self m) (Nat.lt_succ_self m)]
  unfold kron;rw [if_pos rfl]
 rw [hone] at hid
 have hsne:c w≠c u:=fun e=>hFW.fresh hW hU.row (hw3.trans e.symm)
 have hslt:c w<c u:=by
  have:=hmax (c w) ⟨w,hw1,hw2,rfl⟩
  omega
 have hs0:=hU.least _ hslt
 have hsum:0<sumR (fun l=>T w l (c w)*T u m (b w l)) m:=by
  have:=hW.neg
  grind
 obtain ⟨l,hl,hprod⟩:=sumR_pos m hsum
 have hxne:T u m (b w l)≠0:=fun e=>by rw [e] at hprod;grind
 have hnb:∀ i,i<m→b u i≠b w l:=fun i hi e=>hxne (by
  rw [← e,hFU.tab.base m i (Nat.lt_succ_self m) (Nat.lt_succ_of_lt hi)]
  unfold kron;rw [if_neg (by omega)])
 have hpiv:∃ j,p≤j∧j<q∧r j=l:=Classical.byContradiction fun hno=>by
  have h1:=hB w hw1 (by omega) l (fun j a b e=>hno ⟨j,a,by omega,e⟩)
  have h2:=hB u hu1 (by omega) l (fun j a b e=>hno ⟨j,a,by omega,e⟩)
  exact hnb l hl (h2.trans h1.symm)
 have hle:=hmax _ (hC l hl hpiv w hw1 (by omega))
 obtain ⟨j0,j1,j2,j3⟩:=hpiv
 have hl0:T w l rhs=0:=by
  rw [hside w hw1 (by omega) l hl,← hside j0 j1 (by omega) l hl,← j3]
  exact hz j0 j1 j2
 have hxt:b w l≠c u:=by
  intro e
  have hlr:l=r u:=hFW.tab.inj (Nat.lt_succ_of_lt hl) (Nat.lt_succ_of_lt hU.row) (e.trans hw3.symm)
  rw [e,hlr,← hw4] at hprod
  have h1:=hW.up
  have h2:=hU.neg
  have:=Rat.mul_nonneg (Rat.le_of_lt h1) (show 0 ≤ -(T u m (c u)) by grind)
  grind
 have hx0:=hU.least (b w l) (by omega)
 have hup:0<T w l (c w):=by
  refine Classical.byContradiction fun hn=>?_
  rw [Rat.not_lt] at hn
  have:=Rat.mul_nonneg (show 0 ≤ -(T w l (c w)) by grind) hx0
  grind
 have hq0:T w l rhs / T w l (c w)=0:=by rw [hl0,Rat.div_def];grind
 have hw0:=hth w hw1 hw2
 rcases hW.ratio l hl hup with h1 | ⟨_,h1⟩
 ·rw [hw0,hq0] at h1;exact absurd h1 (by decide)
 ·rw [hw4,hw3] at h1;omega
end
theorem pigeon:∀ (n:Nat) (f:Nat→Nat),(∀ i,i≤n→f i<n)→∃ i j,i<j∧j≤n∧f i=f j
 | 0,f,h=>absurd (h 0 (Nat.le_refl _)) (Nat.not_lt_zero _)
 | n+1,f,h=>by
  by_cases h1:∃ i,i≤n∧f i=f (n+1)
  ·obtain ⟨i,h2,h3⟩:=h1
   exact ⟨i,n+1,by omega,Nat.le_refl _,h3⟩
  ·have hv:=h (n+1) (Nat.le_refl _)
   have hne:∀ i,i≤n→f i≠f (n+1):=fun i hi e=>h1 ⟨i,hi,e⟩
   obtain ⟨i,j,h2,h3,h4⟩:=pigeon n (fun i=>if f i=n then f (n+1) else f i) (fun i hi=>by
    have a:=hne i hi
    have b:=h i (by omega)
    show (if f i=n then f (n+1) else f i)<n
    split <;> omega)
   refine ⟨i,j,h2,by omega,?_⟩
   have a:=hne i (by omega)
   have b:=hne j (by omega)
   have h4:(if f i=n then f (n+1) else f i)=(if f j=n then f (n+1) else f j):=h4
   split at h4 <;> split at h4 <;> omega
def code (N:Nat) (f:Nat→Nat):Nat→Nat
 | 0=>0
 | m+1=>code N f m+f m*N ^ m
theorem code_lt {N:Nat} {f:Nat→Nat}:∀ (m:Nat),(∀ i,i<m→f i<N)→code N f m<N ^ m
 | 0,_=>by unfold code;simp
 | m+1,h=>by
  have h1:=code_lt m (fun i hi=>h i (by omega))
  have h2:=h m (by omega)
  have h3:(f m+1)*N ^ m≤N*N ^ m:=Nat.mul_le_mul_right _ h2
  have h4:(f m+1)*N ^ m=f m*N ^ m+N ^ m:=Nat.succ_mul _ _
  have h5:N ^ (m+1)=N*N ^ m:=by rw [Nat.pow_succ,Nat.mul_comm]
  unfold code
  omega
theorem code_inj {N:Nat} {f g:Nat→Nat}:∀ (m:Nat),(∀ i,i<m→f i<N)→(∀ i,i<m→g i<N)→code N f m=code N g m→∀ i,i<m→f i=g i
 | 0,_,_,_=>fun i hi=>absurd hi (Nat.not_lt_zero _)
 | m+1,hf,hg,h=>by
  have h1:=code_lt m (fun i hi=>hf i (by omega))
  have h2:=code_lt m (fun i hi=>hg i (by omega))
  unfold code at h
  have e:f m=g m:=by
   have a:(code N f m+f m*N ^ m) / N ^ m=f m:=by
    rw [Nat.add_mul_div_right _ _ (by omega),Nat.div_eq_of_lt h1];omega
   have b:(code N g m+g m*N ^ m) / N ^ m=g m:=by
    rw [Nat.add_mul_div_right _ _ (by omega),Nat.div_eq_of_lt h2];omega
   rw [← a,← b,h]
  rw [e] at h
  intro i hi
  by_cases ei:i=m
  ·rw [ei];exact e
  ·exact code_inj m (fun i hi=>hf i (by omega)) (fun i hi=>hg i (by omega)) (by omega) i (by omega)
theorem Chain.ends {m N cols rhs z K:Nat} {R:Nat→Nat→Int} {T:Nat→Mx} {b:Nat→Nat→Nat} {c r:Nat→Nat} (h:Chain m N cols rhs z R K T b c r) (hN:cols≤N) (hr:rhs<N):K<N ^ m:=by
 refine Nat.lt_of_not_le fun hK=>?_
 have hF:=h.feas hN
 obtain ⟨p,q,h1,h2,h3⟩:=pigeon (N ^ m) (fun k=>code N (b k) m) (fun k hk=>code_lt m fun i hi=>(hF k (by omega)).tab.col i (by omega))
 exact h.no_cycle hN hr h1 (by omega) (code_inj m (fun i hi=>(hF q (by omega)).tab.col i (by omega)) (fun i hi=>(hF p (by omega)).tab.col i (by omega)) h3.symm)
end Num
end Go.Proofs.YtmppmdmekomjbaaGreatDoor
namespace Go.Proofs.YtmppmdmekomjbaaGreatDoor
namespace Num
set_option linter.unusedVariables false
def extR (m:Nat) (R:Nat→Nat→Int) (cst:Nat→Int):Nat→Nat→Int:=fun i j=>if i=m then cst j else R i j
def extT (m:Nat) (T:Mx) (b:Nat→Nat) (cst:Nat→Int):Mx:=fun i j=>if i=m then (cst j:Rat) - sumR (fun l=>(cst (b l):Rat)*T l j) m else T i j
def extB (m z:Nat) (b:Nat→Nat):Nat→Nat:=fun l=>if l=m then z else b l
theorem mulV_kron_row (N:Nat) (v:Nat→Rat) (r:Nat→Rat) (a:Rat) {k:Nat} (hk:k<N):mulV N r (fun j=>1*v j+a*kron j k)=mulV N r v+a*r k:=by
 rw [mulV_lin2,mulV_kron N r hk];grind
theorem mulV_rows (N:Nat) (a:Nat→Rat) (T:Mx) (v:Nat→Rat) (m:Nat):mulV N (fun j=>sumR (fun l=>a l*T l j) m) v=sumR (fun l=>a l*mulV N (T l) v) m:=by
 unfold mulV
 rw [show sumR (fun l=>a l*sumR (fun j=>T l j*v j) N) m=sumR (fun l=>sumR (fun j=>a l*(T l j*v j)) N) m from sumR_congr m fun l _=>(sumR_mul _ _ _).symm]
 rw [sumR_swap]
 refine sumR_congr N fun j _=>?_
 rw [show sumR (fun l=>a l*T l j) m*v j=v j*sumR (fun l=>a l*T l j) m by grind,← sumR_mul]
 exact sumR_congr m fun l _=>by grind
section
variable {m N z:Nat} {R:Nat→Nat→Int} {T:Mx} {b u:Nat→Nat} {cst:Nat→Int}
theorem Tb.zcol (h:Tb m N R T b) (hz:z<N) (hR:∀ i,i<m→R i z=0) {i:Nat} (hi:i<m):T i z=0:=by
 have:=(h.ker (fun x=>kron x z)).1 (fun k hk=>by
  rw [mulV_kron N _ hz]
  show (R k z:Rat)=0
  rw [hR k hk];rfl) i hi
 rwa [mulV_kron N _ hz] at this
theorem ext_ker (hz:z<N) (h:∀ v,Ker m N (ratM R) v↔Ker m N T v) (v:Nat→Rat):Ker (m+1) N (ratM (extR m R cst)) v↔Ker (m+1) N (extT m T b cst) v:=by
 have e1:∀ i,i<m→mulV N (ratM (extR m R cst) i) v=mulV N (ratM R i) v:=fun i hi=>mulV_congr fun j _=>by
  show ((if i=m then cst j else R i j:Int):Rat)=(R i j:Rat)
  rw [if_neg (by omega)]
 have e2:∀ i,i<m→mulV N (extT m T b cst i) v=mulV N (T i) v:=fun i hi=>mulV_congr fun j _=>by
  unfold extT;rw [if_neg (by omega)]
 have e3:mulV N (ratM (extR m R cst) m) v=mulV N (fun j=>(cst j:Rat)) v:=mulV_congr fun j _=>by
  show ((if m=m then cst j else R m j:Int):Rat)=_
  rw [if_pos rfl]
 have e4:mulV N (extT m T b cst m) v=mulV N (fun j=>(cst j:Rat)) v - sumR (fun l=>(cst (b l):Rat)*mulV N (T l) v) m:=by
  have h1:=mulV_lin N (fun j=>(cst j:Rat)) (fun j=>sumR (fun l=>(cst (b l):Rat)*T l j) m) v 1 (-1)
  rw [mulV_rows] at h1
  rw [show mulV N (fun j=>(cst j:Rat)) v - sumR (fun l=>(cst (b l):Rat)*mulV N (T l) v) m=1*mulV N (fun j=>(cst j:Rat)) v + -1*sumR (fun l=>(cst (b l):Rat)*mulV N (T l) v) m by grind,← h1]
  exact mulV_congr fun j _=>by unfold extT;rw [if_pos rfl];grind
 have hsum:Ker m N T v→sumR (fun l=>(cst (b l):Rat)*mulV N (T l) v) m=0:=fun hk=>sumR_zero m fun l hl=>by rw [hk l hl];grind
 constructor
 ·intro hk i hi
  have hkm:Ker m N T v:=(h v).1 fun i hi=>by rw [← e1 i hi];exact hk i (by omega)
  by_cases e:i=m
  ·rw [e,e4,hsum hkm,← e3,hk m (by omega)];grind
  ·rw [e2 i (by omega)];exact hkm i (by omega)
 ·intro hk i hi
  have hkm:Ker m N T v:=fun i hi=>by rw [← e2 i hi];exact hk i (by omega)
  by_cases e:i=m
  ·have h1:=hk m (by omega)
   rw [e4,hsum hkm] at h1
   rw [e,e3];grind
  ·rw [e1 i (by omega)];exact (h v).2 hkm i (by omega)
theorem Tb.ext (h:Tb m N R T b) (hz:z<N) (hR:∀ i,i<m→R i z=0) (hc:cst z=1):Tb (m+1) N (extR m R cst) (extT m T b cst) (extB m z b):=by
 refine ⟨ext_ker hz h.ker,fun i l hi hl=>?_,fun l hl=>?_⟩
 ·unfold extT extB
  by_cases ei:i=m
  ·rw [if_pos ei]
   by_cases el:l=m
   ·rw [if_pos el,sumR_zero m fun k hk=>by rw [h.zcol hz hR hk];grind,hc,ei,el]
    unfold kron;rw [if_pos rfl]
    show ((1:Int):Rat) - 0=1
    have:((1:Int):Rat)=1:=rfl
    rw [this];grind
   ·rw [if_neg el,sumR_one (k:=l) (by omega) fun k hk hne=>by
     show (cst (b k):Rat)*T k (b l)=0
     rw [h.base k l hk (by omega)];unfold kron;rw [if_neg hne];grind,h.base l l (by omega) (by omega)]
    unfold kron;rw [if_pos rfl,if_neg (by omega)];grind
  ·rw [if_neg ei]
   by_cases el:l=m
   ·rw [if_pos el,h.zcol hz hR (by omega)]
    unfold kron;rw [if_neg (by omega)]
   ·rw [if_neg el];exact h.base i l (by omega) (by omega)
 ·unfold extB
  by_cases el:l=m
  ·rw [if_pos el];exact hz
  ·rw [if_neg el];exact h.col l (by omega)
theorem Tb.cut (h:Tb (m+1) N (extR m R cst) T b) (ht:b m=z) (hz:z<N) (hR:∀ i,i<m→R i z=0) (hc:cst z=1):Tb m N R T b:=by
 have hTz:∀ i,i<m+1→T i z=kron i m:=fun i hi=>by rw [← ht];exact h.base i m hi (Nat.lt_succ_self m)
 have e1:∀ i,i<m→∀ v,mulV N (ratM (extR m R cst) i) v=mulV N (ratM R i) v:=fun i hi v=>mulV_congr fun j _=>by
  show ((if i=m then cst j else R i j:Int):Rat)=(R i j:Rat)
  rw [if_neg (by omega)]
 refine ⟨fun v=>⟨fun hk i hi=>?_,fun hk i hi=>?_⟩,fun i l hi hl=>h.base i l (by omega) (by omega),fun l hl=>h.col l (by omega)⟩
 ·have h1:=(h.ker (fun j=>1*v j + -(mulV N (ratM (extR m R cst) m) v)*kron j z)).1 (fun k hk2=>by
   rw [mulV_kron_row N v _ _ hz]
   by_cases e:k=m
   ·rw [e]
    have:ratM (extR m R cst) m z=1:=by
     show ((if m=m then cst z else R m z:Int):Rat)=1
     rw [if_pos rfl,hc];rfl
    rw [this];grind
   ·rw [e1 k (by omega),hk k (by omega)]
    have:ratM (extR m R cst) k z=0:=by
     show ((if k=m then cst z else R k z:Int):Rat)=0
     rw [if_neg e,hR k (by omega)];rfl
    rw [this];grind) i (by omega)
  rw [mulV_kron_row N v _ _ hz,hTz i (by omega)] at h1
  unfold kron at h1
  rw [if_neg (by omega)] at h1
  grind
 ·have h1:=(h.ker (fun j=>1*v j + -(mulV N (T m) v)*kron j z)).2 (fun k hk2=>by
   rw [mulV_kron_row N v _ _ hz,hTz k hk2]
   unfold kron
   by_cases e:k=m
   ·rw [if_pos e,e];grind
   ·rw [if_neg e,hk k (by omega)];grind) i (by omega)
  rw [mulV_kron_row N v _ _ hz,e1 i hi] at h1
  have:ratM (extR m R cst) i z=0:=by
   show ((if i=m then cst z else R i z:Int):Rat)=0
   rw [if_neg (by omega),hR i hi];rfl
  rw [this] at h1
  grind
theorem tb_first (hu:∀ i l,i<m→l<m→R i (u l)=if i=l then 1 else 0) (hN:∀ l,l<m→u l<N):Tb m N R (ratM R) u:=by
 refine ⟨fun v=>Iff.rfl,fun i l hi hl=>?_,hN⟩
 show (R i (u l):Rat)=kron i l
 rw [hu i l hi hl]
 unfold kron
 split <;> rfl
theorem Tb.duals (h:Tb (m+1) N (extR m R cst) T b) (ht:b m=z) (hz:z<N) (hR:∀ i,i<m→R i z=0) (hc:cst z=1) (hu:∀ i l,i<m→l<m→R i (u l)=if i=l then 1 else 0) (hN:∀ l,l<m→u l<N) {j:Nat} (hj:j<N) :
  T m j=(cst j:Rat) - sumR (fun l=>((cst (u l):Rat) - T m (u l))*(R l j:Rat)) m:=by
 have h0:=(tb_first hu hN).ext hz hR hc
 have h1:=h0.between h (Nat.lt_succ_self m) hj
 unfold sumR at h1
 have hz1:T m (extB m z u m)=1:=by
  unfold extB
  rw [if_pos rfl,← ht,h.base m m (Nat.lt_succ_self m) (Nat.lt_succ_self m)]
  unfold kron;rw [if_pos rfl]
 have hT0:extT m (ratM R) u cst m j=(cst j:Rat) - sumR (fun l=>(cst (u l):Rat)*(R l j:Rat)) m:=by unfold extT;rw [if_pos rfl];rfl
 rw [hz1,hT0] at h1
 have hs:sumR (fun l=>extT m (ratM R) u cst l j*T m (extB m z u l)) m=sumR (fun l=>T m (u l)*(R l j:Rat)) m:=sumR_congr m fun l hl=>by
  unfold extT extB ratM
  rw [if_neg (by omega),if_neg (by omega)];grind
 rw [hs] at h1
 rw [h1]
 have:sumR (fun l=>((cst (u l):Rat) - T m (u l))*(R l j:Rat)) m=sumR (fun l=>(cst (u l):Rat)*(R l j:Rat)) m + -1*sumR (fun l=>T m (u l)*(R l j:Rat)) m:=by
  rw [← sumR_mul,← sumR_add]
  exact sumR_congr m fun l _=>by grind
 rw [this];grind
theorem Tb.prices (h:Tb (m+1) N (extR m R cst) T b) (ht:b m=z) (hz:z<N) (hR:∀ i,i<m→R i z=0) (hc:cst z=1) {j:Nat} (hj:j<N):T m j=(cst j:Rat) - sumR (fun l=>(cst (b l):Rat)*T l j) m:=by
 have h1:=(h.cut ht hz hR hc).ext hz hR hc
 have h2:=h1.same h (fun l hl=>by
  unfold extB
  by_cases e:l=m
  ·rw [if_pos e,e,ht]
  ·rw [if_neg e]) (Nat.lt_succ_self m) hj
 rw [h2]
 unfold extT
 rw [if_pos rfl]
theorem Tb.cols (h:Tb m N R T b) (hu:∀ i l,i<m→l<m→R i (u l)=if i=l then 1 else 0) (hN:∀ l,l<m→u l<N) {i j:Nat} (hi:i<m) (hj:j<N):(R i j:Rat)=sumR (fun l=>T l j*(R i (b l):Rat)) m:=h.between (tb_first hu hN) hi hj
end
end Num
end Go.Proofs.YtmppmdmekomjbaaGreatDoor
namespace Go.Proofs.YtmppmdmekomjbaaGreatDoor
namespace Num
structure AnsL where
 kind:Int
 X:List Str
 dual:List Str
 ray:List Str
 value:Str
def nonneg (xs:List Str):Bool:=xs.all fun x=>decide (0≤signQ x)
def fallB (r:RowL) (ray:List Str):Bool:=decide ((timesQ r.coef ray).2=0) && holdsB r.kind (signQ (timesQ r.coef ray).1)
def fallsB (p:LinL) (ray:List Str):Bool:=nonneg ray && p.rows.all (fun r=>fallB r ray) && decide ((timesQ p.cost ray).2=0) && decide (signQ (timesQ p.cost ray).1<0)
def provedB (p:LinL) (a:AnsL):Bool:=provesB p a.dual && decide (provesS p a.dual=a.value) && decide ((timesQ p.cost a.X).2=0) && decide ((timesQ p.cost a.X).1=a.value)
theorem dual_rat {p:LinL} {ds:List Str} {lim:List Int} (hlim:∀ i,fits (lim.getD i 0)) (hs:signsB p ds=true) (hb:belowB p ds lim=true) :
  (∀ r,r<p.rows.length→signR (rowAt p r).kind (rat ds r))∧∀ i,i<p.cost.length→sumN p.rows.length (fun r=>(((rowAt p r).coef.getD i 0:Int):Rat)*rat ds r)≤((lim.getD i 0:Int):Rat):=by
 unfold signsB at hs
 simp only [Bool.and_eq_true,decide_eq_true_eq] at hs
 obtain ⟨hdl,hs⟩:=hs
 rw [List.all_eq_true] at hs
 unfold belowB at hb
 rw [List.all_eq_true] at hb
 refine ⟨?_,?_⟩
 ·intro r hr
  have hr':r<ds.length:=by omega
  have hm:(p.rows[r],ds[r]) ∈ p.rows.zip ds:=by
   rw [← List.getElem_zip (h:=by rw [List.length_zip];omega)]
   exact List.getElem_mem _
  have h1:=hs _ hm
  rw [rowAt_eq hr,rat_get hr']
  unfold signB at h1
  simp only [Bool.and_eq_true,Bool.not_eq_true',Bool.and_eq_false_iff,decide_eq_false_iff_not] at h1
  obtain ⟨⟨hd,h2⟩,h3⟩:=h1
  have hsg:=signQ_rat hd
  constructor
  ·intro k
   rcases h2 with h2 | h2
   ·exact absurd k h2
   ·have:¬ 0<rq ds[r]:=fun h=>h2 (hsg.2.2 h)
    grind
  ·intro k
   rcases h3 with h3 | h3
   ·exact absurd k h3
   ·have:¬ rq ds[r]<0:=fun h=>h3 (hsg.1.2 h)
    grind
 ·intro i hi
  have h1:=hb i (List.mem_range.2 hi)
  unfold colB at h1
  simp only [Bool.and_eq_true,decide_eq_true_eq] at h1
  have h2:=times_sum h1.1
  have hcl:(col p i).length=p.rows.length:=by unfold col;rw [List.length_map]
  rw [hcl,sumN_congr (g:=fun r=>(((rowAt p r).coef.getD i 0:Int):Rat)*rat ds r) (fun r hr=>by rw [col_get hr])] at h2
  have h3:=cmpQ_rat h2.2.1 (rightQ_decI (hlim i))
  rw [rq_int] at h3
  rw [← h2.2.2]
  have h4:¬ ((lim.getD i 0:Int):Rat)<rq (timesQ (col p i) ds).1:=fun h=>by have:=h3.2.2 h;omega
  grind
theorem holds_zero {k:Int} {t:Str} (ht:rightQ t=true) (h:holdsB k (signQ t)=true):holdsR k (rq t) 0:=by
 have h1:=holds_rat (k:=k) (t:=t) (r:=0) ht fits_zero (by rw [decI_zero,cmpQ_zero'];exact h)
 rw [show ((0:Int):Rat)=0 from rfl] at h1
 exact h1
theorem ray_none {p:LinL} {ds ray:List Str} (hw:wfL p) (hl:ray.length=p.cost.length) (hr:ray.all rightQ=true) (hp:provesB p ds=true):fallsB p ray=false:=by
 cases hf:fallsB p ray
 ·rfl
 exfalso
 unfold provesB at hp
 simp only [Bool.and_eq_true,decide_eq_true_eq] at hp
 obtain ⟨⟨h1,h2⟩,h3⟩:=hp
 obtain ⟨hS,hB⟩:=dual_rat (cost_fits hw) h1 h2
 unfold fallsB nonneg at hf
 simp only [Bool.and_eq_true,decide_eq_true_eq] at hf
 obtain ⟨⟨⟨g1,g2⟩,g3⟩,g4⟩:=hf
 rw [List.all_eq_true] at g1 g2 hr
 have hv:=times_sum g3
 have hX:∀ i,i<p.cost.length→0≤rat ray i:=fun i hi=>by
  have hi':i<ray.length:=by omega
  rw [rat_get hi']
  have a1:=g1 ray[i] (List.getElem_mem hi')
  have a2:=signQ_rat (hr ray[i] (List.getElem_mem hi'))
  simp only [decide_eq_true_eq] at a1
  have a3:¬ rq ray[i]<0:=fun h=>by have:=a2.1.2 h;omega
  grind
 have hH:∀ r,r<p.rows.length→holdsR (rowAt p r).kind (sumN p.cost.length (fun i=>(((rowAt p r).coef.getD i 0:Int):Rat)*rat ray i)) 0:=fun r hlt=>by
  have a1:=g2 _ (List.getElem_mem hlt)
  unfold fallB at a1
  simp only [Bool.and_eq_true,decide_eq_true_eq] at a1
  have a2:=times_sum a1.1
  have a3:=holds_zero a2.2.1 a1.2
  rw [a2.2.2,(hw.1 _ (List.getElem_mem hlt)).1] at a3
  rw [rowAt_eq hlt]
  exact a3
 have hk:=weak p.cost.length p.rows.length (fun i=>((p.cost.getD i 0:Int):Rat)) (fun r i=>(((rowAt p r).coef.getD i 0:Int):Rat)) (fun r=>(rowAt p r).kind) (fun _=>0) (rat ray) (rat ds) hX hH hS hB
 rw [sumN_congr (g:=fun _=>(0:Rat)) (fun r _=>by grind),sumN_zero,← hv.2.2] at hk
 have:=(signQ_rat hv.2.1).1.1 g4
 grind
theorem value_one {p:LinL} {a b:AnsL} (hw:wfL p) (ha:fitsB p a.X=true) (hb:fitsB p b.X=true) (pa:provedB p a=true) (pb:provedB p b=true):a.value=b.value:=by
 unfold provedB at pa pb
 simp only [Bool.and_eq_true,decide_eq_true_eq] at pa pb
 obtain ⟨⟨⟨a1,a2⟩,a3⟩,a4⟩:=pa
 obtain ⟨⟨⟨b1,b2⟩,b3⟩,b4⟩:=pb
 have h1:=weak_proves hw ha b1 a3
 have h2:=weak_proves hw hb a1 b3
 have r1:=(times_sum a3).2.1
 have r2:=(times_sum b3).2.1
 rw [a4,b2] at h1
 rw [b4,a2] at h2
 rw [a4] at r1
 rw [b4] at r2
 have c1:=(cmpQ_rat r1 r2).1
 have c2:=(cmpQ_rat r2 r1).1
 refine rq_inj r1 r2 ?_
 have d1:¬ rq a.value<rq b.value:=fun h=>h1 (c1.2 h)
 have d2:¬ rq b.value<rq a.value:=fun h=>h2 (c2.2 h)
 grind
end Num
end Go.Proofs.YtmppmdmekomjbaaGreatDoor
namespace Go.Proofs.YtmppmdmekomjbaaGreatDoor
namespace Num
set_option linter.unusedVariables false
structure SxR (n m cols:Nat) (sg:Nat→Int) (coef:Nat→Nat→Int) (kind right:Nat→Int) (slk:Nat→Nat) (R:Nat→Nat→Int):Prop where
 le:n≤cols
 sign:∀ i,i<m→sg i=1∨sg i = -1
 kinds:∀ i,i<m→kind i=1∨kind i=2∨kind i=3
 var:∀ i,i<m→∀ j,j<n→R i j=sg i*coef i j
 slack:∀ i,i<m→kind i≠2→n≤slk i∧slk i<cols∧R i (slk i)=if kind i=3 then -(sg i) else sg i
 zero:∀ i,i<m→∀ j,n≤j→j<cols→(kind i=2∨j≠slk i)→R i j=0
 one:∀ i l,i<m→l<m→i≠l→kind i≠2→kind l≠2→slk i≠slk l
 unit:∀ i l,i<m→l<m→R i (cols+l)=if i=l then 1 else 0
 rhs:∀ i,i<m→R i (cols+m)=sg i*right i
 top:∀ i,i<m→R i (cols+m+1)=0
 pos:∀ i,i<m→0≤sg i*right i
structure SxC (n m cols:Nat) (κ:Int) (cost cst:Nat→Int):Prop where
 var:∀ j,j<n→cst j=cost j
 slack:∀ j,n≤j→j<cols→cst j=0
 unit:∀ l,l<m→cst (cols+l)=κ
 rhs:cst (cols+m)=0
 top:cst (cols+m+1)=1
theorem sumR_N (f:Nat→Rat) (n:Nat):sumR f n=sumN n f:=by
 induction n with
 | zero=>rfl
 | succ n ih=>show sumR f n+f n=sumN n f+f n;rw [ih]
theorem sumR_le {f g:Nat→Rat} (n:Nat) (h:∀ j,j<n→f j≤g j):sumR f n≤sumR g n:=by rw [sumR_N,sumR_N];exact sumN_le h
theorem sumR_nonneg {f:Nat→Rat} (n:Nat) (h:∀ j,j<n→0≤f j):0≤sumR f n:=by
 have:=sumR_le (f:=fun _=>0) n h
 rw [sumR_zero n fun _ _=>rfl] at this
 exact this
theorem sumR_all {f:Nat→Rat}:∀ (n:Nat),(∀ j,j<n→0≤f j)→sumR f n=0→∀ j,j<n→f j=0
 | 0,_,_,j,hj=>absurd hj (Nat.not_lt_zero _)
 | n+1,h,h0,j,hj=>by
  have h1:=sumR_nonneg n fun j hj=>h j (Nat.lt_succ_of_lt hj)
  have h2:=h n (Nat.lt_succ_self n)
  have h3:sumR f n+f n=0:=h0
  have h4:sumR f n=0:=by grind
  have h5:f n=0:=by grind
  by_cases e:j=n
  ·rw [e];exact h5
  ·exact sumR_all n (fun j hj=>h j (Nat.lt_succ_of_lt hj)) h4 j (by omega)
section
variable {n m cols:Nat} {sg:Nat→Int} {coef:Nat→Nat→Int} {kind right:Nat→Int} {slk:Nat→Nat} {R:Nat→Nat→Int} {κ:Int} {cost cst:Nat→Int} {T:Mx} {b:Nat→Nat}
theorem sx_duals (hR:SxR n m cols sg coef kind right slk R) (hC:SxC n m cols κ cost cst) (h:Tb (m+1) (cols+m+2) (extR m R cst) T b) (ht:b m=cols+m+1) (hp:∀ j,j<cols→0≤T m j) :
  (∀ l,l<m→signR (kind l) ((sg l:Rat)*((κ:Rat) - T m (cols+l))))∧(∀ j,j<n→sumN m (fun l=>(coef l j:Rat)*((sg l:Rat)*((κ:Rat) - T m (cols+l))))≤(cost j:Rat)) ∧
   sumN m (fun l=>(right l:Rat)*((sg l:Rat)*((κ:Rat) - T m (cols+l)))) = -(T m (cols+m)):=by
 have key:∀ j,j<cols+m+2→T m j=(cst j:Rat) - sumR (fun l=>((κ:Rat) - T m (cols+l))*(R l j:Rat)) m:=by
  intro j hj
  rw [h.duals ht (by omega) hR.top hC.top hR.unit (fun l hl=>by omega) hj]
  congr 1
  exact sumR_congr m fun l hl=>by rw [hC.unit l hl]
 refine ⟨fun l hl=>?_,fun j hj=>?_,?_⟩
 ·have hs:kind l≠2→((κ:Rat) - T m (cols+l))*(((if kind l=3 then -(sg l) else sg l:Int)):Rat)≤0:=by
   intro hk
   obtain ⟨h1,h2,h3⟩:=hR.slack l hl hk
   have h4:=key (slk l) (by omega)
   rw [hC.slack _ h1 h2,sumR_one (k:=l) hl fun i hi hne=>by
    show ((κ:Rat) - T m (cols+i))*(R i (slk l):Rat)=0
    have h0:R i (slk l)=0:=hR.zero i hi _ h1 h2 (by
     by_cases e:kind i=2
     ·exact .inl e
     ·exact .inr (hR.one l i hl hi (fun e=>hne e.symm) hk e))
    rw [h0]
    have:((0:Int):Rat)=0:=rfl
    rw [this];grind,h3] at h4
   have h5:=hp (slk l) h2
   have:((0:Int):Rat)=0:=rfl
   rw [this] at h4
   grind
  constructor
  ·intro hk
   have:=hs (by omega)
   rw [if_neg (by omega)] at this
   grind
  ·intro hk
   have:=hs (by omega)
   rw [if_pos hk,Rat.intCast_neg] at this
   grind
 ·have h4:=key j (by have:=hR.le;omega)
  have h5:=hp j (by have:=hR.le;omega)
  rw [hC.var j hj] at h4
  have h6:sumR (fun l=>((κ:Rat) - T m (cols+l))*(R l j:Rat)) m=sumN m (fun l=>(coef l j:Rat)*((sg l:Rat)*((κ:Rat) - T m (cols+l)))):=by
   rw [← sumR_N]
   exact sumR_congr m fun l hl=>by rw [hR.var l hl j hj,Rat.intCast_mul];grind
  rw [h6] at h4
  grind
 ·have h4:=key (cols+m) (by omega)
  rw [hC.rhs] at h4
  have h6:sumR (fun l=>((κ:Rat) - T m (cols+l))*(R l (cols+m):Rat)) m=sumN m (fun l=>(right l:Rat)*((sg l:Rat)*((κ:Rat) - T m (cols+l)))):=by
   rw [← sumR_N]
   exact sumR_congr m fun l hl=>by rw [hR.rhs l hl,Rat.intCast_mul];grind
  rw [h6] at h4
  have:((0:Int):Rat)=0:=rfl
  rw [this] at h4
  grind
def xV (m:Nat) (T:Mx) (b:Nat→Nat) (j:Nat):Nat→Rat:=fun x=>sumR (fun l=>kron x (b l)*T l j) m
theorem xV_base {N:Nat} (h:Tb m N R T b) {j l:Nat} (hl:l<m):xV m T b j (b l)=T l j:=by
 unfold xV
 rw [sumR_one (k:=l) hl fun i hi hne=>by
  show kron (b l) (b i)*T i j=0
  unfold kron;rw [if_neg (fun e=>hne (h.inj hl hi e).symm)];grind]
 unfold kron;rw [if_pos rfl];grind
theorem xV_free {j x:Nat} (hx:∀ l,l<m→b l≠x):xV m T b j x=0:=by
 unfold xV
 refine sumR_zero m fun l hl=>?_
 unfold kron;rw [if_neg (fun e=>hx l hl e.symm)];grind
theorem sum_xV {f:Nat→Rat} {j:Nat} (hz:∀ l,l<m→cols≤b l→T l j=0):sumR (fun x=>f x*xV m T b j x) cols=sumR (fun l=>f (b l)*T l j) m:=by
 have e1:sumR (fun x=>f x*xV m T b j x) cols=sumR (fun x=>sumR (fun l=>f x*(kron x (b l)*T l j)) m) cols:=sumR_congr cols fun x _=>(sumR_mul _ _ _).symm
 rw [e1,sumR_swap]
 refine sumR_congr m fun l hl=>?_
 by_cases hb:b l<cols
 ·rw [sumR_one (k:=b l) hb fun x hx hne=>by unfold kron;rw [if_neg hne];grind]
  unfold kron;rw [if_pos rfl];grind
 ·rw [hz l hl (by omega)]
  rw [sumR_zero cols fun x _=>by grind];grind
theorem sx_cols (hR:SxR n m cols sg coef kind right slk R) (h:Tb m (cols+m+2) R T b) {j:Nat} (hj:j<cols+m+2) (hz:∀ l,l<m→cols≤b l→T l j=0) {i:Nat} (hi:i<m) :
  (R i j:Rat)=sumR (fun x=>(R i x:Rat)*xV m T b j x) cols:=by
 rw [sum_xV hz,h.cols hR.unit (fun l hl=>by omega) hi hj]
 exact sumR_congr m fun l _=>by grind
theorem sx_holds (hR:SxR n m cols sg coef kind right slk R) {v:Nat→Rat} (hv:∀ x,x<cols→0≤v x) {i:Nat} (hi:i<m) {q:Rat} (hs:sumR (fun x=>(R i x:Rat)*v x) cols=(sg i:Rat)*q) :
  holdsR (kind i) (sumN n (fun x=>(coef i x:Rat)*v x)) q:=by
 have hle:=hR.le
 obtain ⟨s,rfl⟩:∃ s,cols=n+s:=⟨cols - n,by omega⟩
 rw [sumR_app] at hs
 have e1:sumR (fun x=>(R i x:Rat)*v x) n=(sg i:Rat)*sumN n (fun x=>(coef i x:Rat)*v x):=by
  rw [← sumR_N,← sumR_mul]
  exact sumR_congr n fun x hx=>by rw [hR.var i hi x hx,Rat.intCast_mul];grind
 rw [e1] at hs
 generalize sumN n (fun x=>(coef i x:Rat)*v x)=L at *
 have hsg:=hR.sign i hi
 have hc0:((0:Int):Rat)=0:=rfl
 have hc1:((1:Int):Rat)=1:=rfl
 have hcm:((-1:Int):Rat) = -1:=rfl
 have hsl:kind i≠2→∃ t:Rat,0≤t∧sumR (fun j=>(R i (n+j):Rat)*v (n+j)) s=(((if kind i=3 then -(sg i) else sg i:Int)):Rat)*t:=by
  intro hk
  obtain ⟨h1,h2,h3⟩:=hR.slack i hi hk
  refine ⟨v (slk i),hv _ h2,?_⟩
  rw [sumR_one (k:=slk i - n) (by omega) fun j hj hne=>by
   show (R i (n+j):Rat)*v (n+j)=0
   rw [hR.zero i hi (n+j) (by omega) (by omega) (.inr (by omega)),hc0];grind]
  rw [show n+(slk i - n)=slk i by omega,h3]
 unfold holdsR
 rcases hR.kinds i hi with k | k | k
 ·rw [if_pos k]
  obtain ⟨t,ht,e⟩:=hsl (by omega)
  rw [e,if_neg (by omega)] at hs
  rcases hsg with g | g <;> rw [g] at hs
  ·rw [hc1] at hs;grind
  ·rw [hcm] at hs;grind
 ·rw [if_neg (by omega),if_neg (by omega)]
  rw [sumR_zero s fun j hj=>by rw [hR.zero i hi (n+j) (by omega) (by omega) (.inl k),hc0];grind] at hs
  rcases hsg with g | g <;> rw [g] at hs
  ·rw [hc1] at hs;grind
  ·rw [hcm] at hs;grind
 ·rw [if_neg (by omega),if_pos k]
  obtain ⟨t,ht,e⟩:=hsl (by omega)
  rw [e,if_pos k,Rat.intCast_neg] at hs
  rcases hsg with g | g <;> rw [g] at hs
  ·rw [hc1] at hs;grind
  ·rw [hcm] at hs;grind
theorem xV_nonneg {j:Nat} (hp:∀ l,l<m→0≤T l j) (x:Nat):0≤xV m T b j x:=sumR_nonneg m fun l hl=>by
 have:=hp l hl
 unfold kron;split <;> grind
theorem sx_cost (hC:SxC n m cols κ cost cst) (hle:n≤cols) {v:Nat→Rat}:sumR (fun x=>(cst x:Rat)*v x) cols=sumN n (fun x=>(cost x:Rat)*v x):=by
 obtain ⟨s,rfl⟩:∃ s,cols=n+s:=⟨cols - n,by omega⟩
 rw [sumR_app,sumR_zero s fun j hj=>by
  rw [hC.slack (n+j) (by omega) (by omega)]
  have hc0:((0:Int):Rat)=0:=rfl
  rw [hc0];grind]
 rw [← sumR_N,show sumR (fun x=>(cost x:Rat)*v x) n=sumR (fun x=>(cst x:Rat)*v x) n from sumR_congr n fun x hx=>by rw [hC.var x hx]]
 grind
theorem sx_values (hR:SxR n m cols sg coef kind right slk R) (hC:SxC n m cols κ cost cst) (h:Tb (m+1) (cols+m+2) (extR m R cst) T b) (ht:b m=cols+m+1) (hp:∀ i,i<m→0≤T i (cols+m)) (hz:∀ l,l<m→cols≤b l→T l (cols+m)=0) :
  (∀ x,0≤xV m T b (cols+m) x)∧(∀ i,i<m→holdsR (kind i) (sumN n (fun x=>(coef i x:Rat)*xV m T b (cols+m) x)) (right i:Rat))∧sumN n (fun x=>(cost x:Rat)*xV m T b (cols+m) x) = -(T m (cols+m)):=by
 have hc:=h.cut ht (by omega) hR.top hC.top
 refine ⟨xV_nonneg hp,fun i hi=>sx_holds hR (fun x _=>xV_nonneg hp x) hi ?_,?_⟩
 ·rw [← sx_cols hR hc (by omega) hz hi,hR.rhs i hi,Rat.intCast_mul]
 ·have:=h.prices ht (by omega) hR.top hC.top (j:=cols+m) (by omega)
  rw [← sx_cost hC hR.le,sum_xV (f:=fun x=>(cst x:Rat)) hz]
  rw [hC.rhs] at this
  have hc0:((0:Int):Rat)=0:=rfl
  rw [hc0] at this
  grind
theorem sx_ray (hR:SxR n m cols sg coef kind right slk R) (hC:SxC n m cols κ cost cst) (h:Tb (m+1) (cols+m+2) (extR m R cst) T b) (ht:b m=cols+m+1) {c:Nat} (hc:c<cols) (hp:∀ i,i<m→T i c≤0) (hz:∀ l,l<m→cols≤b l→T l c=0) :
  (∀ x,0≤kron x c - xV m T b c x)∧(∀ i,i<m→holdsR (kind i) (sumN n (fun x=>(coef i x:Rat)*(kron x c - xV m T b c x))) 0)∧sumN n (fun x=>(cost x:Rat)*(kron x c - xV m T b c x))=T m c:=by
 have hcu:=h.cut ht (by omega) hR.top hC.top
 have hx:∀ x,0≤kron x c - xV m T b c x:=fun x=>by
  have h1:xV m T b c x≤0:=by
   have:=sumR_le (f:=fun l=>kron x (b l)*T l c) (g:=fun _=>0) m (fun l hl=>by
    have:=hp l hl
    show kron x (b l)*T l c≤0
    unfold kron;split <;> grind)
   rw [sumR_zero m fun _ _=>rfl] at this
   exact this
  have:0≤kron x c:=by unfold kron;split <;> decide
  grind
 have hsub:∀ f:Nat→Rat,sumR (fun x=>f x*(kron x c - xV m T b c x)) cols=f c - sumR (fun x=>f x*xV m T b c x) cols:=by
  intro f
  have e1:sumR (fun x=>f x*(kron x c - xV m T b c x)) cols=sumR (fun x=>f x*kron x c + -1*(f x*xV m T b c x)) cols:=sumR_congr cols fun x _=>by grind
  rw [e1,sumR_add,sumR_mul,sumR_one (k:=c) hc fun x _ hne=>by unfold kron;rw [if_neg hne];grind]
  unfold kron;rw [if_pos rfl];grind
 refine ⟨hx,fun i hi=>sx_holds hR (fun x _=>hx x) hi ?_,?_⟩
 ·rw [hsub,← sx_cols hR hcu (by omega) hz hi];grind
 ·have:=h.prices ht (by omega) hR.top hC.top (j:=c) (by omega)
  rw [← sx_cost hC hR.le,hsub (fun x=>(cst x:Rat)),sum_xV (f:=fun x=>(cst x:Rat)) hz,this]
theorem sx_bounded (hR:SxR n m cols sg coef kind right slk R) (hC:SxC n m cols 1 (fun _=>0) cst) (h:Tb (m+1) (cols+m+2) (extR m R cst) T b) (ht:b m=cols+m+1) (hb:∀ l,l<m→b l<cols+m) {c:Nat} (hc:c<cols) (hp:∀ i,i<m→T i c≤0):0≤T m c:=by
 have h1:=h.prices ht (by omega) hR.top hC.top (j:=c) (by omega)
 have h0:cst c=0:=by
  by_cases e:c<n
  ·exact hC.var c e
  ·exact hC.slack c (by omega) hc
 have hc0:((0:Int):Rat)=0:=rfl
 have hc1:((1:Int):Rat)=1:=rfl
 have h2:=sumR_le (f:=fun l=>(cst (b l):Rat)*T l c) (g:=fun _=>0) m (fun l hl=>by
  have h3:=hp l hl
  show (cst (b l):Rat)*T l c≤0
  by_cases e:b l<cols
  ·have:cst (b l)=0:=by
    by_cases e:b l<n
    ·exact hC.var _ e
    ·exact hC.slack _ (by omega) (by assumption)
   rw [this,hc0];grind
  ·have:=hC.unit (b l - cols) (by have:=hb l hl;omega)
   rw [show cols+(b l - cols)=b l by omega] at this
   rw [this,hc1];grind)
 rw [sumR_zero m fun _ _=>rfl] at h2
 rw [h0,hc0] at h1
 grind
theorem sx_sum (hR:SxR n m cols sg coef kind right slk R) (hC:SxC n m cols 1 (fun _=>0) cst) (h:Tb (m+1) (cols+m+2) (extR m R cst) T b) (ht:b m=cols+m+1) (hb:∀ l,l<m→b l<cols+m) (hp:∀ i,i<m→0≤T i (cols+m)) :
  T m (cols+m)≤0∧(T m (cols+m)=0→∀ l,l<m→cols≤b l→T l (cols+m)=0):=by
 have h1:=h.prices ht (by omega) hR.top hC.top (j:=cols+m) (by omega)
 have hc0:((0:Int):Rat)=0:=rfl
 have hc1:((1:Int):Rat)=1:=rfl
 have hu:∀ l,l<m→cols≤b l→cst (b l)=1:=fun l hl e=>by
  have:=hC.unit (b l - cols) (by have:=hb l hl;omega)
  rwa [show cols+(b l - cols)=b l by omega] at this
 have h2:∀ l,l<m→0≤(cst (b l):Rat)*T l (cols+m):=fun l hl=>by
  have h3:=hp l hl
  by_cases e:b l<cols
  ·have:cst (b l)=0:=by
    by_cases e:b l<n
    ·exact hC.var _ e
    ·exact hC.slack _ (by omega) (by assumption)
   rw [this,hc0];grind
  ·rw [hu l hl (by omega),hc1];grind
 have h3:=sumR_nonneg m h2
 rw [hC.rhs,hc0] at h1
 refine ⟨by grind,fun h0 l hl e=>?_⟩
 have h4:=sumR_all m h2 (by grind) l hl
 rw [hu l hl e,hc1] at h4
 grind
end
def Idle (m cols:Nat) (T:Mx) (b:Nat→Nat):Prop:=∀ l,l<m→cols≤b l→T l (cols+m)=0∧∀ j,j<cols→T l j=0
theorem idle_next {m cols N z:Nat} {R:Nat→Nat→Int} {T:Mx} {b:Nat→Nat} {c r:Nat} (h:Feas m N cols (cols+m) z R T b) (hi:Idle m cols T b) (hp:Piv1 m cols (cols+m) T b c r):Idle m cols (pivM T r c) (fun l=>if l=r then c else b l):=by
 have hrc:b r<cols:=by
  rcases Nat.lt_or_ge (b r) cols with h1 | h1
  ·exact h1
  ·have h2:=(hi r hp.row h1).2 c hp.lt
   have h3:=hp.up
   rw [h2] at h3
   exact absurd h3 (by decide)
 intro l hl hc
 have hc:cols≤if l=r then c else b l:=hc
 by_cases e:l=r
 ·rw [if_pos e] at hc
  have:=hp.lt
  omega
 ·rw [if_neg e] at hc
  obtain ⟨h1,h2⟩:=hi l hl hc
  have h3:=h2 c hp.lt
  unfold pivM
  refine ⟨by rw [if_neg e,h1,h3];grind,fun j hj=>by rw [if_neg e,h2 j hj,h3];grind⟩
end Num
end Go.Proofs.YtmppmdmekomjbaaGreatDoor
namespace Go.Proofs.YtmppmdmekomjbaaGreatDoor
namespace Num
set_option linter.unusedVariables false
theorem frx_len {D:Nat} {s:Str} (h:FrD D D s):s.length≤2*D+2:=by
 obtain ⟨p,q,h1,h2,h3,h4⟩:=h
 exact FrT.len ⟨p,q,⟨h1,h2,h3⟩,h4⟩
def bOf (bs:List Nat) (m z:Nat):Nat→Nat:=fun l=>if l=m then z else bs.getD l 0
theorem bOf_lt {bs:List Nat} {m z l:Nat} (h:l<m):bOf bs m z l=bs.getD l 0:=by unfold bOf;rw [if_neg (by omega)]
theorem bOf_top (bs:List Nat) (m z:Nat):bOf bs m z m=z:=by unfold bOf;rw [if_pos rfl]
theorem bOf_set {bs:List Nat} {m z r c:Nat} (hm:bs.length=m) (hr:r<m):bOf (bs.set r c) m z=fun l=>if l=r then c else bOf bs m z l:=by
 funext l
 unfold bOf
 by_cases e:l=m
 ·rw [if_pos e,if_neg (by omega),if_pos e]
 ·rw [if_neg e,if_neg e,List.getD_eq_getElem?_getD,List.getElem?_set,List.getD_eq_getElem?_getD]
  by_cases e2:r=l
  ·subst e2;rw [if_pos rfl,if_pos (by omega),if_pos rfl];rfl
  ·rw [if_neg e2,if_neg (fun h=>e2 h.symm)]
theorem bs_set_lt {bs:List Nat} {r c B:Nat} (h:∀ x ∈ bs,x<B) (hc:c<B):∀ x ∈ bs.set r c,x<B:=by
 intro x hx
 rcases List.mem_or_eq_of_mem_set hx with h1 | h1
 ·exact h x h1
 ·rw [h1];exact hc
structure SxE (D m cols:Nat) (R:Nat→Nat→Int) (E:List (List Str)) (bs:List Nat) (T:Mx):Prop where
 len:E.length=m+1
 mat:Mat D D (cols+m+1) E
 blen:bs.length=m
 blt:∀ x ∈ bs,x<cols+m
 tab:Tb (m+1) (cols+m+2) R T (bOf bs m (cols+m+1))
 val:∀ i,i<m+1→∀ j,j<cols+m+1→T i j=rq (cellM E i j)
section
variable {D d m cols:Nat} {R:Nat→Nat→Int} {E:List (List Str)} {bs:List Nat} {T:Mx} {r c:Nat}
theorem SxE.zero (h:SxE D m cols R E bs T) (hD:D≤4096) {i j:Nat} (hi:i<m+1) (hj:j<cols+m+1):T i j=0↔cellM E i j=[48]:=by
 rw [h.val i hi j hj]
 exact rq_zero_iff ((h.mat.cell (by rw [h.len];exact hi) hj).right hD hD)
theorem SxE.pivot (h:SxE D m cols R E bs T) (hd1:1≤d) (hd:∀ s,s<m+1→∀ c,c<cols+m+2→dl (R s c)≤d) (hg:gr m d≤D) (hD:3*D+1≤4096) (hr:r<m) (hc:c<cols) (hne:cellM E r c≠[48]) :
  ClearOps D (cols+m+1) E r c∧SxE D m cols R (clearM E r c) (bs.set r c) (pivM T r c):=by
 have hT0:T r c≠0:=fun e=>hne ((h.zero (by omega) (by omega) (by omega)).1 e)
 have hp:=h.tab.pivot (r:=r) (c:=c) (by omega) (by omega) hT0
 rw [← bOf_set h.blen hr] at hp
 have hk:=clear_ok h.mat (row:=r) (col:=c) (T:=T) (by rw [h.len];omega) (by omega) (fun i hi j hj=>h.val i (by rw [← h.len];exact hi) j hj) hne (fun i hi j hj=>by
  obtain ⟨P,Q,hQ,h1,h2,h3⟩:=hp.bound hd1 hd (i:=i) (j:=j) (by rw [← h.len];exact hi) (by omega)
  rw [Nat.add_sub_cancel] at h1 h2
  exact ⟨P,Q,hQ,Nat.le_trans h1 hg,Nat.le_trans h2 hg,h3⟩) hD
 refine ⟨hk.1,by rw [clearM_len];exact h.len,hk.2.1,by rw [List.length_set];exact h.blen,bs_set_lt h.blt (by omega),hp,fun i hi j hj=>hk.2.2 i (by rw [h.len];exact hi) j hj⟩
def Lv (T:Mx) (b:Nat→Nat) (c rhs i r:Nat):Prop:=r<i∧0<T r c∧∀ l,l<i→0<T l c→T r rhs / T r c<T l rhs / T l c∨(T r rhs / T r c=T l rhs / T l c∧b r≤b l)
theorem Lv.skip {b:Nat→Nat} {rhs i:Nat} (h:Lv T b c rhs i r) (hi:¬ 0<T i c):Lv T b c rhs (i+1) r :=
 ⟨Nat.lt_succ_of_lt h.1,h.2.1,fun l hl hp=>by
  rcases Nat.lt_or_eq_of_le (Nat.le_of_lt_succ hl) with h1 | h1
  ·exact h.2.2 l h1 hp
  ·rw [h1] at hp;exact absurd hp hi⟩
theorem Lv.keep {b:Nat→Nat} {rhs i:Nat} (h:Lv T b c rhs i r) (hi:T r rhs / T r c<T i rhs / T i c∨(T r rhs / T r c=T i rhs / T i c∧b r≤b i)):Lv T b c rhs (i+1) r :=
 ⟨Nat.lt_succ_of_lt h.1,h.2.1,fun l hl hp=>by
  rcases Nat.lt_or_eq_of_le (Nat.le_of_lt_succ hl) with h1 | h1
  ·exact h.2.2 l h1 hp
  ·rw [h1];exact hi⟩
theorem Lv.new {b:Nat→Nat} {rhs i:Nat} (h:Lv T b c rhs i r) (h0:0<T i c) (hi:T i rhs / T i c<T r rhs / T r c∨(T i rhs / T i c=T r rhs / T r c∧b i≤b r)):Lv T b c rhs (i+1) i :=
 ⟨Nat.lt_succ_self i,h0,fun l hl hp=>by
  rcases Nat.lt_or_eq_of_le (Nat.le_of_lt_succ hl) with h1 | h1
  ·have h2:=h.2.2 l h1 hp
   generalize T i rhs / T i c=x at *
   generalize T r rhs / T r c=y at *
   generalize T l rhs / T l c=u at *
   rcases hi with hi | hi <;> rcases h2 with h2 | h2
   ·exact .inl (by grind)
   ·exact .inl (by grind)
   ·exact .inl (by grind)
   ·exact .inr ⟨by grind,by omega⟩
  ·subst h1;exact .inr ⟨rfl,Nat.le_refl _⟩⟩
theorem Lv.first {b:Nat→Nat} {rhs i:Nat} (h:∀ l,l<i→¬ 0<T l c) (h0:0<T i c):Lv T b c rhs (i+1) i :=
 ⟨Nat.lt_succ_self i,h0,fun l hl hp=>by
  rcases Nat.lt_or_eq_of_le (Nat.le_of_lt_succ hl) with h1 | h1
  ·exact absurd hp (h l h1)
  ·subst h1;exact .inr ⟨rfl,Nat.le_refl _⟩⟩
theorem SxE.quo (h:SxE D m cols R E bs T) (hD:3*D+1≤4096) {i:Nat} (hi:i<m) (hc:c<cols) (h0:0<T i c):quoQE (cellM E i (cols+m)) (cellM E i c)=0∧rightQ (quoQS (cellM E i (cols+m)) (cellM E i c))=true∧rq (quoQS (cellM E i (cols+m)) (cellM E i c))=T i (cols+m) / T i c∧(quoQS (cellM E i (cols+m)) (cellM E i c)).length≤1000000:=by
 have ha:=h.mat.cell (i:=i) (c:=cols+m) (by rw [h.len];omega) (by omega)
 have hb:=h.mat.cell (i:=i) (c:=c) (by rw [h.len];omega) (by omega)
 have h1:=h.val i (by omega) c (by omega)
 have hq:=ha.div hb (by rw [← h1];intro e;rw [e] at h0;exact absurd h0 (by decide)) (by omega) (by omega) (by omega) (by omega) (by omega) (by omega)
 have hr:=hq.2.1.right (by omega) (by omega)
 exact ⟨hq.1,hr,by rw [hq.2.2,← h1,← h.val i (by omega) (cols+m) (by omega)],by have:=frx_len hq.2.1;omega⟩
end
end Num
end Go.Proofs.YtmppmdmekomjbaaGreatDoor
namespace Go.Proofs.YtmppmdmekomjbaaGreatDoor
namespace Num
set_option linter.unusedVariables false
def sgI (r:RowL):Int:=if r.right<0 then -1 else 1
def slN (rows:List RowL):Nat:=(rows.filter fun r=>r.kind != 2).length
def slkI (p:LinL) (i:Nat):Nat:=p.cost.length+slN (p.rows.take i)
def colI (p:LinL):Nat:=p.cost.length+slN p.rows
def R0 (p:LinL) (i j:Nat):Int :=
 if j<p.cost.length then sgI (rowAt p i)*(rowAt p i).coef.getD j 0
 else if j<colI p then (if (rowAt p i).kind≠2∧j=slkI p i then (if (rowAt p i).kind=3 then -(sgI (rowAt p i)) else sgI (rowAt p i)) else 0)
 else if j<colI p+p.rows.length then (if j=colI p+i then 1 else 0)
 else if j=colI p+p.rows.length then sgI (rowAt p i)*(rowAt p i).right else 0
theorem slN_take_succ {rows:List RowL} {i:Nat} (h:i<rows.length):slN (rows.take (i+1))=slN (rows.take i)+if rows[i].kind≠2 then 1 else 0:=by
 unfold slN
 rw [List.take_succ_eq_append_getElem h,List.filter_append,List.length_append]
 by_cases e:rows[i].kind=2
 ·rw [if_neg (by simpa using e),List.filter_cons_of_neg (by simpa using e)];rfl
 ·rw [if_pos e,List.filter_cons_of_pos (by simpa using e)];rfl
theorem slN_le (rows:List RowL) {i j:Nat} (h:i≤j):slN (rows.take i)≤slN (rows.take j):=by
 induction j with
 | zero=>rw [show i=0 by omega];exact Nat.le_refl _
 | succ j ih =>
  by_cases e:i=j+1
  ·rw [e];exact Nat.le_refl _
  ·refine Nat.le_trans (ih (by omega)) ?_
   by_cases hj:j<rows.length
   ·rw [slN_take_succ hj];omega
   ·rw [List.take_of_length_le (by omega),List.take_of_length_le (by omega)];exact Nat.le_refl _
theorem slN_len (rows:List RowL):slN rows≤rows.length:=List.length_filter_le _ _
theorem slk_lt {p:LinL} {i:Nat} (hi:i<p.rows.length) (hk:(rowAt p i).kind≠2):p.cost.length≤slkI p i∧slkI p i<colI p:=by
 unfold slkI colI
 rw [rowAt_eq hi] at hk
 have h1:=slN_take_succ hi
 rw [if_pos hk] at h1
 have h2:=slN_le p.rows (i:=i+1) (j:=p.rows.length) (by omega)
 rw [List.take_length] at h2
 omega
theorem slk_ne {p:LinL} {i l:Nat} (hil:i<l) (hl:l<p.rows.length) (hk:(rowAt p i).kind≠2):slkI p i≠slkI p l:=by
 unfold slkI
 rw [rowAt_eq (by omega)] at hk
 have h1:=slN_take_succ (rows:=p.rows) (i:=i) (by omega)
 rw [if_pos hk] at h1
 have h2:=slN_le p.rows (i:=i+1) (j:=l) (by omega)
 omega
theorem sg_sign (r:RowL):sgI r=1∨sgI r = -1:=by unfold sgI;split <;> omega
theorem sg_pos (r:RowL):0≤sgI r*r.right:=by unfold sgI;split <;> omega
theorem sxR0 (p:LinL) (hk:∀ i,i<p.rows.length→(rowAt p i).kind=1∨(rowAt p i).kind=2∨(rowAt p i).kind=3) :
  SxR p.cost.length p.rows.length (colI p) (fun i=>sgI (rowAt p i)) (fun i j=>(rowAt p i).coef.getD j 0) (fun i=>(rowAt p i).kind) (fun i=>(rowAt p i).right) (slkI p) (R0 p):=by
 have hle:p.cost.length≤colI p:=by unfold colI;omega
 refine ⟨hle,fun i hi=>sg_sign _,hk,fun i hi j hj=>?_,fun i hi h=>?_,fun i hi j h1 h2 h=>?_,fun i l hi hl hne h1 h2=>?_,fun i l hi hl=>?_,fun i hi=>?_,fun i hi=>?_,fun i hi=>sg_pos _⟩
 ·unfold R0;rw [if_pos hj]
 ·have hs:=slk_lt hi h
  refine ⟨hs.1,hs.2,?_⟩
  unfold R0
  rw [if_neg (by omega),if_pos hs.2,if_pos ⟨h,rfl⟩]
 ·unfold R0
  rw [if_neg (by omega),if_pos h2,if_neg (fun hh=>h.elim (fun e=>hh.1 e) (fun e=>e hh.2))]
 ·rcases Nat.lt_or_gt_of_ne hne with h | h
  ·exact slk_ne h hl h1
  ·exact (slk_ne h hi h2).symm
 ·unfold R0
  rw [if_neg (by omega),if_neg (by omega),if_pos (by omega)]
  by_cases e:i=l
  ·rw [if_pos (by omega),if_pos e]
  ·rw [if_neg (by omega),if_neg e]
 ·unfold R0
  rw [if_neg (by omega),if_neg (by omega),if_neg (by omega),if_pos rfl]
 ·unfold R0
  rw [if_neg (by omega),if_neg (by omega),if_neg (by omega),if_neg (by omega)]
def C0 (p:LinL) (cost:List Int) (κ:Int) (j:Nat):Int :=
 if j<p.cost.length then cost.getD j 0 else if j<colI p then 0 else if j<colI p+p.rows.length then κ else if j=colI p+p.rows.length then 0 else 1
theorem sxC0 (p:LinL) (cost:List Int) (κ:Int):SxC p.cost.length p.rows.length (colI p) κ (fun j=>cost.getD j 0) (C0 p cost κ):=by
 have hle:p.cost.length≤colI p:=by unfold colI;omega
 refine ⟨fun j hj=>?_,fun j h1 h2=>?_,fun l hl=>?_,?_,?_⟩ <;> unfold C0
 ·rw [if_pos hj]
 ·rw [if_neg (by omega),if_pos h2]
 ·rw [if_neg (by omega),if_neg (by omega),if_pos (by omega)]
 ·rw [if_neg (by omega),if_neg (by omega),if_neg (by omega),if_pos rfl]
 ·rw [if_neg (by omega),if_neg (by omega),if_neg (by omega),if_neg (by omega)]
structure SmallL (d d2:Nat) (p:LinL):Prop where
 coef:∀ r ∈ p.rows,∀ n ∈ r.coef,dl n≤d
 right:∀ r ∈ p.rows,dl r.right≤d
 cost:∀ n ∈ p.cost,dl n≤d2
theorem dl_sg {r:RowL} {n:Int} {d:Nat} (h:dl n≤d):dl (sgI r*n)≤d:=by
 rcases sg_sign r with e | e <;> rw [e]
 ·rw [Int.one_mul];exact h
 ·rw [show (-1:Int)*n = -n by omega,dl_neg];exact h
theorem dl_small {n:Int} (h:n=0∨n=1∨n = -1):dl n≤1:=by rcases h with h | h | h <;> subst h <;> decide +kernel
theorem R0_small {d d2:Nat} {p:LinL} (h:SmallL d d2 p) (hd:1≤d) {i j:Nat} (hi:i<p.rows.length):dl (R0 p i j)≤d:=by
 have hm:=List.getElem_mem hi
 unfold R0
 rw [rowAt_eq hi]
 have h0:dl 0≤d:=Nat.le_trans (dl_small (.inl rfl)) hd
 split
 ·refine dl_sg ?_
  rw [List.getD_eq_getElem?_getD]
  rcases Nat.lt_or_ge j p.rows[i].coef.length with e | e
  ·rw [List.getElem?_eq_getElem e];exact h.coef _ hm _ (List.getElem_mem e)
  ·rw [List.getElem?_eq_none e];exact h0
 ·split
  ·split
   ·refine Nat.le_trans (dl_small ?_) hd
    rcases sg_sign p.rows[i] with e | e <;> rw [e] <;> split <;> omega
   ·exact h0
  ·split
   ·split
    ·exact Nat.le_trans (dl_small (.inr (.inl rfl))) hd
    ·exact h0
   ·split
    ·exact dl_sg (h.right _ hm)
    ·exact h0
theorem C0_small {d:Nat} {p:LinL} {cost:List Int} {κ:Int} (h:∀ n ∈ cost,dl n≤d) (hκ:κ=0∨κ=1) (hd:1≤d) (j:Nat):dl (C0 p cost κ j)≤d:=by
 have h0:dl 0≤d:=Nat.le_trans (dl_small (.inl rfl)) hd
 unfold C0
 split
 ·rw [List.getD_eq_getElem?_getD]
  rcases Nat.lt_or_ge j cost.length with e | e
  ·rw [List.getElem?_eq_getElem e];exact h _ (List.getElem_mem e)
  ·rw [List.getElem?_eq_none e];exact h0
 ·split
  ·exact h0
  ·split
   ·rcases hκ with e | e <;> rw [e]
    ·exact h0
    ·exact Nat.le_trans (dl_small (.inr (.inl rfl))) hd
   ·split
    ·exact h0
    ·exact Nat.le_trans (dl_small (.inr (.inl rfl))) hd
theorem ext_small {d d2:Nat} {p:LinL} {cost:List Int} {κ:Int} (h:SmallL d d2 p) (hc:∀ n ∈ cost,dl n≤d2) (hκ:κ=0∨κ=1) (hd:1≤d) (hdd:d≤d2) (s c:Nat) (hs:s<p.rows.length+1):dl (extR p.rows.length (R0 p) (C0 p cost κ) s c)≤d2:=by
 unfold extR
 split
 ·exact C0_small hc hκ (by omega) c
 ·exact Nat.le_trans (R0_small h hd (by omega)) hdd
end Num
end Go.Proofs.YtmppmdmekomjbaaGreatDoor

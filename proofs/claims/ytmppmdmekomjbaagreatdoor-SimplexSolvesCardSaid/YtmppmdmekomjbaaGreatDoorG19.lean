/- Fractions whose digits above and below are counted apart: quotients, products, differences do not err: plain. -/
import Derived.Test.YtmppmdmekomjbaaGreatDoorG14
namespace Go.Proofs.YtmppmdmekomjbaaGreatDoor
namespace Num
set_option linter.unusedVariables false
def FrD (n d:Nat) (s:Str):Prop:=∃ (p:Int) (q:Nat),0<q∧dl p≤n∧dl (q:Int)≤d∧s=lowS p q
theorem FrD.mono {n d n' d':Nat} {s:Str} (h:FrD n d s) (h1:n≤n') (h2:d≤d'):FrD n' d' s:=by
 obtain ⟨p,q,hq,a,b,e⟩:=h;exact ⟨p,q,hq,by omega,by omega,e⟩
theorem FrD.right {n d:Nat} {s:Str} (h:FrD n d s) (h1:n≤4096) (h2:d≤4096):rightQ s=true:=by
 obtain ⟨p,q,hq,a,b,rfl⟩:=h;exact right_low hq (by omega) (by omega)
theorem FrD.parts {n d:Nat} {s:Str} (h:FrD n d s):dl (qn s)≤n∧dl ((qd s:Nat):Int)≤d∧0<qd s:=by
 obtain ⟨p,q,hq,a,b,rfl⟩:=h
 obtain ⟨g,hg,e1,e2,h3,h4,h5,h6,h7⟩:=low_read p hq
 exact ⟨Nat.le_trans (dl_mono h6) a,Nat.le_trans (dl_mono (by rw [Int.natAbs_natCast,Int.natAbs_natCast];exact h7)) b,h3⟩
section
variable {n d n' d':Nat} {a b:Str} (ha:FrD n d a) (hb:FrD n' d' b)
include ha hb
theorem FrD.mul (h1:n+n'≤4096) (h2:d+d'≤4096):mulQE a b=0∧FrD (n+n') (d+d') (mulQS a b)∧rq (mulQS a b)=rq a*rq b:=by
 have ra:=ha.right (by omega) (by omega)
 have rb:=hb.right (by omega) (by omega)
 have pa:=ha.parts
 have pb:=hb.parts
 have m1:=dl_mul (qn a) (qn b)
 have m2:=dl_mul ((qd a:Nat):Int) ((qd b:Nat):Int)
 have e:mulQE a b=0:=by
  unfold mulQE
  rw [if_pos (errQ_zero.2 ⟨ra,rb⟩),if_pos ⟨by omega,by omega⟩]
 have hf:=mulQ_fr e
 exact ⟨e,⟨_,_,hf.2.2.1.1,by omega,by rw [Int.natCast_mul];omega,hf.2.2.2⟩,(rq_mul e).2⟩
theorem FrD.sub (h1:max (n+d') (n' + d)+1≤4096) (h2:d+d'≤4096):subQE a b=0∧FrD (max (n+d') (n' + d)+1) (d+d') (subQS a b)∧rq (subQS a b)=rq a - rq b:=by
 have ra:=ha.right (by omega) (by omega)
 have rb:=hb.right (by omega) (by omega)
 have pa:=ha.parts
 have pb:=hb.parts
 have m1:=dl_mul (qn a) ((qd b:Nat):Int)
 have m2:=dl_mul (qn b) ((qd a:Nat):Int)
 have m3:=dl_mul ((qd a:Nat):Int) ((qd b:Nat):Int)
 have m4:=dl_sub (qn a*((qd b:Nat):Int)) (qn b*((qd a:Nat):Int))
 have e:subQE a b=0:=by
  unfold subQE
  rw [if_pos (errQ_zero.2 ⟨ra,rb⟩)]
  refine if_pos ?_
  unfold sumOK
  exact ⟨by omega,by omega,by omega,by omega⟩
 have hS:subQS a b=lowS (qn a*qd b - qn b*qd a) (qd a*qd b):=by unfold subQS;rw [if_pos e]
 have hp:=Nat.mul_pos pa.2.2 pb.2.2
 refine ⟨e,⟨_,_,hp,by omega,by rw [Int.natCast_mul];omega,hS⟩,?_⟩
 rw [hS,rq_low hp]
 unfold rq
 rw [Rat.intCast_sub,Rat.intCast_mul,Rat.intCast_mul,Int.natCast_mul,Rat.intCast_mul]
 have z1:=natne pa.2.2
 have z2:=natne pb.2.2
 grind
theorem FrD.add (h1:max (n+d') (n' + d)+1≤4096) (h2:d+d'≤4096):addQE a b=0∧FrD (max (n+d') (n' + d)+1) (d+d') (addQS a b)∧rq (addQS a b)=rq a+rq b:=by
 have ra:=ha.right (by omega) (by omega)
 have rb:=hb.right (by omega) (by omega)
 have pa:=ha.parts
 have pb:=hb.parts
 have m1:=dl_mul (qn a) ((qd b:Nat):Int)
 have m2:=dl_mul (qn b) ((qd a:Nat):Int)
 have m3:=dl_mul ((qd a:Nat):Int) ((qd b:Nat):Int)
 have m4:=dl_add (qn a*((qd b:Nat):Int)) (qn b*((qd a:Nat):Int))
 have e:addQE a b=0:=by
  unfold addQE
  rw [if_pos (errQ_zero.2 ⟨ra,rb⟩)]
  refine if_pos ?_
  unfold sumOK
  exact ⟨by omega,by omega,by omega,by omega⟩
 have hf:=addQ_fr e
 exact ⟨e,⟨_,_,hf.2.2.1.1,by omega,by rw [Int.natCast_mul];omega,hf.2.2.2⟩,(rq_add e).2⟩
theorem FrD.div (h0:rq b≠0) (h1:n+d'≤4096) (h2:d+n'≤4096) (h3:n≤4096) (h4:d≤4096) (h5:n'≤4096) (h6:d'≤4096):quoQE a b=0∧FrD (n+d') (d+n') (quoQS a b)∧rq (quoQS a b)=rq a / rq b:=by
 have ra:=ha.right h3 h4
 have rb:=hb.right h5 h6
 have pa:=ha.parts
 have pb:=hb.parts
 have hz:qn b≠0:=by
  intro hz;apply h0;unfold rq;rw [hz]
  have:((0:Int):Rat)=0:=rfl
  rw [this];grind
 have m1:=dl_mul (qn a) ((qd b:Nat):Int)
 have m2:=dl_mul ((qd a:Nat):Int) (qn b)
 have e:quoQE a b=0:=by
  unfold quoQE
  rw [if_pos (errQ_zero.2 ⟨ra,rb⟩),if_neg hz]
  exact if_pos ⟨by omega,by omega⟩
 have hS:quoQS a b=quoS (qn a*qd b) ((qd a:Int)*qn b):=by unfold quoQS;rw [if_pos e]
 have hne:((qd a:Nat):Int)*qn b≠0:=Int.mul_ne_zero (by omega) hz
 obtain ⟨p,q,hq,e1,e2,e3,e4⟩:=quoS_neg (x:=qn a*qd b) hne
 refine ⟨e,⟨p,q,hq,by omega,by omega,by rw [hS,e1]⟩,?_⟩
 rw [hS,e1,rq_low hq]
 unfold rq
 have z1:=natne pa.2.2
 have z2:=natne pb.2.2
 have z3:=natne hq
 have z4:((qn b:Int):Rat)≠0:=fun h=>hz (Rat.intCast_inj.1 h)
 have e5:((p*((qd a:Nat)*qn b:Int):Int):Rat)=((qn a*(qd b:Nat)*(q:Nat):Int):Rat):=congrArg _ e2
 rw [Rat.intCast_mul,Rat.intCast_mul,Rat.intCast_mul,Rat.intCast_mul] at e5
 grind
end
end Num
end Go.Proofs.YtmppmdmekomjbaaGreatDoor
namespace Go.Proofs.YtmppmdmekomjbaaGreatDoor
namespace Num
set_option linter.unusedVariables false
theorem rq_zero:rq [48]=0:=by
 have:=rq_int 0
 rw [decI_zero] at this
 rw [this];rfl
theorem rq_zero_iff {s:Str} (h:rightQ s=true):rq s=0↔s=[48]:=by
 constructor
 ·intro e
  exact rq_inj h (by decide +kernel) (e.trans rq_zero.symm)
 ·intro e;rw [e];exact rq_zero
theorem take_zero {n d:Nat} {x f a:Str} (hx:FrD n d x) (hf:FrD n d f) (ha:FrD (n+d) (d+n) a) (h1:2*n+2*d+1≤4096) (h2:3*d+n≤4096) (h:f=[48]∨a=[48]):subQS x (mulQS f a)=x:=by
 have hm:=hf.mul ha (by omega) (by omega)
 have hs:=hx.sub hm.2.1 (by omega) (by omega)
 refine rq_inj (hs.2.1.right (by omega) (by omega)) (hx.right (by omega) (by omega)) ?_
 rw [hs.2.2,hm.2.2]
 rcases h with h | h
 ·rw [h,rq_zero];grind
 ·rw [h,rq_zero];grind
def scaleR (r:List Str) (p:Str):List Str:=r.map fun a=>quoQS a p
def lessR (r first:List Str) (f:Str):List Str:=List.zipWith (fun x a=>subQS x (mulQS f a)) r first
def cellM (m:List (List Str)) (i k:Nat):Str:=(m.getD i []).getD k []
def clearM (m:List (List Str)) (row col:Nat):List (List Str) :=
 let first:=scaleR (m.getD row []) (cellM m row col)
 (List.range m.length).map fun i=>if i=row then first else lessR (m.getD i []) first (cellM m i col)
def Mat (n d k:Nat) (m:List (List Str)):Prop:=∀ r ∈ m,r.length=k∧∀ a ∈ r,FrD n d a
theorem Mat.mono {n d n' d' k:Nat} {m:List (List Str)} (h:Mat n d k m) (h1:n≤n') (h2:d≤d'):Mat n' d' k m:=fun r hr=>⟨(h r hr).1,fun a ha=>((h r hr).2 a ha).mono h1 h2⟩
theorem Mat.row {n d k:Nat} {m:List (List Str)} (h:Mat n d k m) {i:Nat} (hi:i<m.length):(m.getD i []).length=k∧∀ a ∈ m.getD i [],FrD n d a:=by
 rw [List.getD_eq_getElem?_getD,List.getElem?_eq_getElem hi]
 exact h _ (List.getElem_mem hi)
theorem Mat.cell {n d k:Nat} {m:List (List Str)} (h:Mat n d k m) {i c:Nat} (hi:i<m.length) (hc:c<k):FrD n d (cellM m i c):=by
 have hr:=h.row hi
 unfold cellM
 generalize m.getD i []=r at *
 rw [List.getD_eq_getElem?_getD,List.getElem?_eq_getElem (by omega)]
 exact hr.2 _ (List.getElem_mem _)
end Num
end Go.Proofs.YtmppmdmekomjbaaGreatDoor
namespace Go.Proofs.YtmppmdmekomjbaaGreatDoor
namespace Num
set_option linter.unusedVariables false
theorem s1 (F A P R1 R3:Rat) (h1:R1≠0) (h3:R3≠0) (hP:P≠0):(F / R3)*((A / R1) / (P / R1))=(F*A) / (R3*P):=by grind
theorem s2 (X F A P R3:Rat) (h3:R3≠0) (hP:P≠0):X / R3 - (F*A) / (R3*P)=(X*P - F*A) / (R3*P):=by grind
theorem s3 (u v D P R2 R3:Rat) (h2:R2≠0) (h3:R3≠0) (hP:P≠0) (hD:D≠0):(u / (R3*P))*((v / (R2*P)) / (D / (R2*P)))=(u*v) / (R3*P*D):=by grind
theorem FrD.value {n d:Nat} {s:Str} (hs:rightQ s=true) {P Q:Int} (hQ:Q≠0) (h1:dl P≤n) (h2:dl Q≤d) (hn:n≤4096) (hd:d≤4096) (hv:rq s=(P:Rat) / (Q:Rat)):FrD n d s:=by
 obtain ⟨p,q,hq,e1,e2,e3,e4⟩:=quoS_neg (x:=P) hQ
 refine ⟨p,q,hq,by omega,by omega,rq_inj hs (right_low hq (by omega) (by omega)) ?_⟩
 rw [hv,rq_low hq]
 have z1:=natne hq
 have z2:(Q:Rat)≠0:=fun h=>hQ (Rat.intCast_inj.1 h)
 have e5:((p*Q:Int):Rat)=((P*(q:Nat):Int):Rat):=congrArg _ e2
 rw [Rat.intCast_mul,Rat.intCast_mul] at e5
 grind
end Num
end Go.Proofs.YtmppmdmekomjbaaGreatDoor
namespace Go.Proofs.YtmppmdmekomjbaaGreatDoor
namespace Num
set_option linter.unusedVariables false
end Num
end Go.Proofs.YtmppmdmekomjbaaGreatDoor
namespace Go.Proofs.YtmppmdmekomjbaaGreatDoor
namespace Num
set_option linter.unusedVariables false
end Num
end Go.Proofs.YtmppmdmekomjbaaGreatDoor
namespace Go.Proofs.YtmppmdmekomjbaaGreatDoor
namespace Num
set_option linter.unusedVariables false
def sumR (f:Nat→Rat):Nat→Rat
 | 0=>0
 | n+1=>sumR f n+f n
theorem sumR_congr {f g:Nat→Rat} (n:Nat) (h:∀ j,j<n→f j=g j):sumR f n=sumR g n:=by
 induction n with
 | zero=>rfl
 | succ n ih=>unfold sumR;rw [ih (fun j hj=>h j (by omega)),h n (by omega)]
theorem sumR_add (f g:Nat→Rat) (n:Nat):sumR (fun j=>f j+g j) n=sumR f n+sumR g n:=by
 induction n with
 | zero=>unfold sumR;grind
 | succ n ih=>unfold sumR;rw [ih];grind
theorem sumR_mul (c:Rat) (f:Nat→Rat) (n:Nat):sumR (fun j=>c*f j) n=c*sumR f n:=by
 induction n with
 | zero=>unfold sumR;grind
 | succ n ih=>unfold sumR;rw [ih];grind
theorem sumR_zero {f:Nat→Rat} (n:Nat) (h:∀ j,j<n→f j=0):sumR f n=0:=by
 induction n with
 | zero=>rfl
 | succ n ih=>unfold sumR;rw [ih (fun j hj=>h j (by omega)),h n (by omega)];grind
theorem sumR_one {f:Nat→Rat} {n k:Nat} (hk:k<n) (h:∀ j,j<n→j≠k→f j=0):sumR f n=f k:=by
 induction n with
 | zero=>omega
 | succ n ih =>
  unfold sumR
  by_cases e:k=n
  ·subst e;rw [sumR_zero k fun j hj=>h j (by omega) (by omega)];grind
  ·rw [ih (by omega) (fun j hj=>h j (by omega)),h n (by omega) (fun h=>e h.symm)];grind
theorem sumR_two {f:Nat→Rat} {n k l:Nat} (hk:k<n) (hl:l<n) (hkl:k≠l) (h:∀ j,j<n→j≠k→j≠l→f j=0):sumR f n=f k+f l:=by
 induction n with
 | zero=>omega
 | succ n ih =>
  unfold sumR
  by_cases e:k=n
  ·subst e
   rw [sumR_one (k:=l) (by omega) fun j hj h2=>h j (by omega) (by omega) h2];grind
  ·by_cases e2:l=n
   ·subst e2
    rw [sumR_one (k:=k) (by omega) fun j hj h2=>h j (by omega) h2 (by omega)]
   ·rw [ih (by omega) (by omega) (fun j hj=>h j (by omega)),h n (by omega) (fun h=>e h.symm) (fun h=>e2 h.symm)];grind
abbrev Mx:=Nat→Nat→Rat
def kron (i j:Nat):Rat:=if i=j then 1 else 0
def mulV (N:Nat) (r v:Nat→Rat):Rat:=sumR (fun j=>r j*v j) N
def Ker (m N:Nat) (T:Mx) (v:Nat→Rat):Prop:=∀ i,i<m→mulV N (T i) v=0
theorem mulV_lin (N:Nat) (r s v:Nat→Rat) (a b:Rat):mulV N (fun j=>a*r j+b*s j) v=a*mulV N r v+b*mulV N s v:=by
 unfold mulV
 rw [← sumR_mul,← sumR_mul,← sumR_add]
 exact sumR_congr N fun j _=>by grind
theorem mulV_lin2 (N:Nat) (r u v:Nat→Rat) (a b:Rat):mulV N r (fun j=>a*u j+b*v j)=a*mulV N r u+b*mulV N r v:=by
 unfold mulV
 rw [← sumR_mul,← sumR_mul,← sumR_add]
 exact sumR_congr N fun j _=>by grind
theorem mulV_kron (N:Nat) (r:Nat→Rat) {k:Nat} (hk:k<N):mulV N r (fun j=>kron j k)=r k:=by
 unfold mulV
 rw [sumR_one hk fun j _ h=>by show r j*kron j k=0;unfold kron;rw [if_neg h];grind]
 show r k*kron k k=r k
 unfold kron;rw [if_pos rfl];grind
theorem mulV_congr {N:Nat} {r s v:Nat→Rat} (h:∀ j,j<N→r j=s j):mulV N r v=mulV N s v:=sumR_congr N fun j hj=>by rw [h j hj]
theorem mulV_sum (N:Nat) (r:Nat→Rat) (a:Nat→Rat) (b:Nat→Nat) (m:Nat) (hb:∀ l,l<m→b l<N):mulV N r (fun j=>sumR (fun i=>a i*kron j (b i)) m)=sumR (fun i=>a i*r (b i)) m:=by
 induction m with
 | zero=>exact sumR_zero N fun j _=>by show r j*0=0;grind
 | succ m ih =>
  have h1:=mulV_lin2 N r (fun j=>sumR (fun i=>a i*kron j (b i)) m) (fun j=>kron j (b m)) 1 (a m)
  rw [ih (fun l hl=>hb l (by omega)),mulV_kron N r (hb m (by omega))] at h1
  show _=sumR _ m+a m*r (b m)
  rw [show sumR (fun i=>a i*r (b i)) m+a m*r (b m)=1*sumR (fun i=>a i*r (b i)) m+a m*r (b m) by grind,← h1]
  refine sumR_congr N fun j _=>?_
  show r j*(sumR (fun i=>a i*kron j (b i)) m+a m*kron j (b m))=_
  grind
def pivM (T:Mx) (r c:Nat):Mx:=fun i j=>if i=r then T r j / T r c else T i j - T i c*(T r j / T r c)
theorem mulV_piv {N r c:Nat} {T:Mx} (i:Nat) (v:Nat→Rat) (h0:T r c≠0):mulV N (pivM T r c i) v=if i=r then mulV N (T r) v / T r c else mulV N (T i) v - T i c*(mulV N (T r) v / T r c):=by
 by_cases h:i=r
 ·subst h
  rw [if_pos rfl]
  have:=mulV_lin N (T i) (T i) v (1 / T i c) 0
  rw [show mulV N (T i) v / T i c=1 / T i c*mulV N (T i) v+0*mulV N (T i) v by grind,← this]
  exact mulV_congr fun j _=>by unfold pivM;rw [if_pos rfl];grind
 ·rw [if_neg h]
  have:=mulV_lin N (T i) (T r) v 1 (-(T i c / T r c))
  rw [show mulV N (T i) v - T i c*(mulV N (T r) v / T r c)=1*mulV N (T i) v + -(T i c / T r c)*mulV N (T r) v by grind,← this]
  exact mulV_congr fun j _=>by unfold pivM;rw [if_neg h];grind
theorem ker_piv {m N r c:Nat} {T:Mx} {v:Nat→Rat} (hr:r<m) (h0:T r c≠0):Ker m N (pivM T r c) v↔Ker m N T v:=by
 constructor
 ·intro h i hi
  have h1:=h r hr
  have h2:=h i hi
  rw [mulV_piv _ _ h0,if_pos rfl] at h1
  rw [mulV_piv _ _ h0] at h2
  have h3:mulV N (T r) v=0:=by grind
  by_cases e:i=r
  ·rw [e];exact h3
  ·rw [if_neg e,h3] at h2;grind
 ·intro h i hi
  rw [mulV_piv _ _ h0,h r hr,h i hi]
  split <;> grind
def ratM (R:Nat→Nat→Int):Mx:=fun i j=>(R i j:Rat)
def gr:Nat→Nat→Nat
 | 0,d=>d
 | k+1,d=>gr k (2*d+1)
theorem gr_mono:∀ (k:Nat) {d e:Nat},d≤e→gr k d≤gr k e:=by
 intro k
 induction k with
 | zero=>intro d e h;exact h
 | succ k ih=>intro d e h;exact ih (by omega)
theorem gr_le:∀ (k d:Nat),d≤gr k d:=by
 intro k
 induction k with
 | zero=>intro d;exact Nat.le_refl d
 | succ k ih=>intro d;exact Nat.le_trans (by omega) (ih (2*d+1))
theorem gr_more {k l:Nat} (h:k≤l) (d:Nat):gr k d≤gr l d:=by
 induction l with
 | zero=>rw [show k=0 by omega];exact Nat.le_refl _
 | succ l ih =>
  by_cases e:k=l+1
  ·rw [e];exact Nat.le_refl _
  ·exact Nat.le_trans (ih (by omega)) (gr_mono l (by omega))
theorem elim_bound (m N j k:Nat) (hj:j<N) (hk:k<N) (hjk:k≠j):∀ (cs:List Nat) (d:Nat) (R:Nat→Nat→Int) (v0:Nat→Rat),(∀ s,s<m→∀ c,c<N→dl (R s c)≤d) →
  (∀ c ∈ cs,c<N)→k ∉ cs→j ∉ cs→cs.Nodup →
  (∀ v:Nat→Rat,(∀ c,c≠k→c ∉ cs→v c=0)→Ker m N (ratM R) v→∀ c,c=k∨c ∈ cs→v c=0) →
  (∀ s,s<m→∀ c,c<N→c≠k→c≠j→c ∉ cs→(R s c:Rat)*v0 c=0)→v0 j=1→Ker m N (ratM R) v0 →
  ∃ P Q:Int,Q≠0∧dl P≤gr cs.length d∧dl Q≤gr cs.length d∧v0 k=(P:Rat) / (Q:Rat):=by
 intro cs
 induction cs with
 | nil =>
  intro d R v0 hd _ _ _ _ huq hz h1 hker
  have:∃ s,s<m∧R s k≠0:=by
   refine Classical.byContradiction fun hno=>?_
   have:=huq (fun c=>kron c k) (fun c hc _=>by unfold kron;rw [if_neg hc]) (fun s hs=>by
    rw [mulV_kron N _ hk]
    show (R s k:Rat)=0
    have:R s k=0:=Classical.byContradiction fun h=>hno ⟨s,hs,h⟩
    rw [this];rfl) k (.inl rfl)
   simp only [kron,if_pos] at this
   exact absurd this (by decide)
  obtain ⟨s,hs,hne⟩:=this
  have hq:(R s k:Rat)≠0:=fun h=>hne (Rat.intCast_inj.1 h)
  have he:=hker s hs
  unfold mulV ratM at he
  rw [sumR_two hk hj hjk fun c hc h2 h3=>hz s hs c hc h2 h3 (by simp),h1] at he
  refine ⟨-(R s j),R s k,hne,?_,hd s hs k hk,?_⟩
  ·rw [dl_neg];exact hd s hs j hj
  ·rw [Rat.intCast_neg];grind
 | cons c cs ih =>
  intro d R v0 hd hcs hkn hjn hnd huq hz h1 hker
  have hcN:=hcs c (by simp)
  obtain ⟨hkc,hkn⟩:k≠c∧k ∉ cs:=by simpa using hkn
  obtain ⟨hjc,hjn⟩:j≠c∧j ∉ cs:=by simpa using hjn
  obtain ⟨hcn,hnd⟩:c ∉ cs∧cs.Nodup:=by simpa using hnd
  have:∃ s,s<m∧R s c≠0:=by
   refine Classical.byContradiction fun hno=>?_
   have:=huq (fun a=>kron a c) (fun a _ ha=>by unfold kron;rw [if_neg (fun h=>ha (by rw [h];simp))]) (fun s hs=>by
    rw [mulV_kron N _ hcN]
    show (R s c:Rat)=0
    have:R s c=0:=Classical.byContradiction fun h=>hno ⟨s,hs,h⟩
    rw [this];rfl) c (.inr (by simp))
   simp only [kron,if_pos] at this
   exact absurd this (by decide)
  obtain ⟨r,hr,hne⟩:=this
  have hq:(R r c:Rat)≠0:=fun h=>hne (Rat.intCast_inj.1 h)
  have hrow:∀ s v,mulV N (ratM (fun s a=>R r c*R s a - R s c*R r a) s) v=(R r c:Rat)*mulV N (ratM R s) v + -(R s c:Rat)*mulV N (ratM R r) v:=by
   intro s v
   rw [← mulV_lin]
   refine mulV_congr fun a _=>?_
   show ((R r c*R s a - R s c*R r a:Int):Rat)=(R r c:Rat)*(R s a:Rat) + -(R s c:Rat)*(R r a:Rat)
   rw [Rat.intCast_sub,Rat.intCast_mul,Rat.intCast_mul];grind
  refine ih (2*d+1) (fun s a=>R r c*R s a - R s c*R r a) v0 ?_ (fun a ha=>hcs a (by simp [ha])) hkn hjn hnd ?_ ?_ h1 ?_
  ·intro s hs a ha
   have m1:=dl_mul (R r c) (R s a)
   have m2:=dl_mul (R s c) (R r a)
   have m3:=dl_sub (R r c*R s a) (R s c*R r a)
   have b1:=hd r hr c hcN
   have b2:=hd s hs a ha
   have b3:=hd s hs c hcN
   have b4:=hd r hr a ha
   show dl (R r c*R s a - R s c*R r a)≤_
   omega
  ·intro v hv hkv a ha
   have hx:=huq (fun a=>1*v a+(-(mulV N (ratM R r) v) / (R r c:Rat))*kron a c) ?_ ?_ a (by rcases ha with h | h;exact .inl h;exact .inr (by simp [h]))
   ·have hac:a≠c:=by
     rcases ha with h | h
     ·rw [h];exact hkc
     ·intro e;rw [e] at h;exact hcn h
    simp only [kron,if_neg hac] at hx
    grind
   ·intro a h2 h3
    have h3':a≠c∧a ∉ cs:=by simpa using h3
    rw [hv a h2 h3'.2];unfold kron;rw [if_neg h3'.1];grind
   ·intro s hs
    rw [mulV_lin2,mulV_kron N _ hcN]
    have h4:=hkv s hs
    rw [hrow] at h4
    show 1*mulV N (ratM R s) v + -mulV N (ratM R r) v / (R r c:Rat)*(R s c:Rat)=0
    grind
  ·intro s hs a ha h2 h3 h4
   show ((R r c*R s a - R s c*R r a:Int):Rat)*v0 a=0
   rw [Rat.intCast_sub,Rat.intCast_mul,Rat.intCast_mul]
   by_cases e:a=c
   ·subst e;grind
   ·have e1:=hz s hs a ha h2 h3 (by simp [e,h4])
    have e2:=hz r hr a ha h2 h3 (by simp [e,h4])
    grind
  ·intro s hs
   rw [hrow,hker s hs,hker r hr];grind
structure Tb (m N:Nat) (R:Nat→Nat→Int) (T:Mx) (b:Nat→Nat):Prop where
 ker:∀ v,Ker m N (ratM R) v↔Ker m N T v
 base:∀ i l,i<m→l<m→T i (b l)=kron i l
 col:∀ l,l<m→b l<N
section
variable {m N:Nat} {R:Nat→Nat→Int} {T:Mx} {b:Nat→Nat}
theorem Tb.inj (h:Tb m N R T b) {i l:Nat} (hi:i<m) (hl:l<m) (e:b i=b l):i=l:=by
 have h1:=h.base i i hi hi
 have h2:=h.base i l hi hl
 rw [e,h2] at h1
 unfold kron at h1
 rw [if_pos rfl] at h1
 refine Classical.byContradiction fun hn=>?_
 rw [if_neg hn] at h1
 exact absurd h1 (by decide)
theorem Tb.pivot (h:Tb m N R T b) {r c:Nat} (hr:r<m) (hc:c<N) (h0:T r c≠0):Tb m N R (pivM T r c) (fun l=>if l=r then c else b l):=by
 refine ⟨fun v=>(h.ker v).trans (ker_piv hr h0).symm,fun i l hi hl=>?_,fun l hl=>?_⟩
 ·by_cases e:l=r
  ·rw [if_pos e]
   subst e
   unfold pivM kron
   by_cases e2:i=l
   ·rw [if_pos e2,if_pos e2];grind
   ·rw [if_neg e2,if_neg e2];grind
  ·rw [if_neg e]
   have h1:=h.base r l hr hl
   have h2:=h.base i l hi hl
   unfold kron at h1
   rw [if_neg (fun h=>e h.symm)] at h1
   unfold pivM
   by_cases e2:i=r
   ·rw [if_pos e2,h1]
    unfold kron
    rw [if_neg (fun h=>e (by omega))];grind
   ·rw [if_neg e2,h1,h2];grind
 ·show (if l=r then c else b l)<N
  split
  ·exact hc
  ·exact h.col l hl
theorem Tb.bound (h:Tb m N R T b) {d:Nat} (hd1:1≤d) (hd:∀ s,s<m→∀ c,c<N→dl (R s c)≤d) {i j:Nat} (hi:i<m) (hj:j<N) :
  ∃ P Q:Int,Q≠0∧dl P≤gr (m - 1) d∧dl Q≤gr (m - 1) d∧T i j=(P:Rat) / (Q:Rat):=by
 have hone:dl 1≤gr (m - 1) d:=Nat.le_trans (by show dl 1≤1;decide +kernel) (Nat.le_trans hd1 (gr_le _ _))
 have hzero:dl 0≤gr (m - 1) d:=Nat.le_trans (by show dl 0≤1;decide +kernel) (Nat.le_trans hd1 (gr_le _ _))
 by_cases hb:∃ l,l<m∧j=b l
 ·obtain ⟨l,hl,rfl⟩:=hb
  rw [h.base i l hi hl]
  unfold kron
  by_cases e:i=l
  ·rw [if_pos e];exact ⟨1,1,by decide,hone,hone,by decide +kernel⟩
  ·rw [if_neg e];exact ⟨0,1,by decide,hzero,hone,by decide +kernel⟩
 ·have hnb:∀ l,l<m→j≠b l:=fun l hl e=>hb ⟨l,hl,e⟩
  have hmem:∀ c,c ∈ ((List.range m).erase i).map b↔∃ l,l<m∧l≠i∧c=b l:=by
   intro c
   rw [List.mem_map]
   constructor
   ·rintro ⟨l,hl,rfl⟩
    have:=(List.nodup_range.mem_erase_iff).1 hl
    exact ⟨l,List.mem_range.1 this.2,this.1,rfl⟩
   ·rintro ⟨l,h1,h2,rfl⟩
    exact ⟨l,(List.nodup_range.mem_erase_iff).2 ⟨h2,List.mem_range.2 h1⟩,rfl⟩
  have hlen:(((List.range m).erase i).map b).length=m - 1:=by
   rw [List.length_map,List.length_erase_of_mem (List.mem_range.2 hi),List.length_range]
  have hv0:∀ l,l<m→kron (b l) j - sumR (fun i=>T i j*kron (b l) (b i)) m = -(T l j):=by
   intro l hl
   rw [sumR_one (k:=l) hl fun a ha hne=>by
    have:b l≠b a:=fun e=>hne (h.inj hl ha e).symm
    unfold kron;rw [if_neg this];grind]
   unfold kron
   rw [if_neg (fun e=>hnb l hl e.symm),if_pos rfl];grind
  have hkey:=elim_bound m N j (b i) hj (h.col i hi) (fun e=>hnb i hi e.symm) (((List.range m).erase i).map b) d R (fun c=>kron c j - sumR (fun i=>T i j*kron c (b i)) m) hd
   (fun c hc=>by obtain ⟨l,h1,_,rfl⟩:=(hmem c).1 hc;exact h.col l h1)
   (fun hc=>by obtain ⟨l,h1,h2,e⟩:=(hmem _).1 hc;exact h2 (h.inj hi h1 e).symm)
   (fun hc=>by obtain ⟨l,h1,h2,e⟩:=(hmem _).1 hc;exact hnb l h1 e)
   ?_ ?_ ?_ ?_ ?_
  ·obtain ⟨P,Q,hQ,h1,h2,h3⟩:=hkey
   rw [hlen] at h1 h2
   rw [hv0 i hi] at h3
   refine ⟨-P,Q,hQ,by rw [dl_neg];exact h1,h2,?_⟩
   rw [Rat.intCast_neg];grind
  ·refine List.Pairwise.map b (R:=fun a c=>a≠c∧a<m∧c<m) (fun a c hac e=>hac.1 (h.inj hac.2.1 hac.2.2 e)) ?_
   have hnd:((List.range m).erase i).Nodup:=List.nodup_range.erase i
   refine List.Pairwise.imp_of_mem (fun {a c} ha hc hne=>⟨hne,?_,?_⟩) hnd
   ·exact List.mem_range.1 (List.mem_of_mem_erase ha)
   ·exact List.mem_range.1 (List.mem_of_mem_erase hc)
  ·intro v hv hker c hc
   have hkt:=(h.ker v).1 hker
   have hval:∀ l,l<m→v (b l)=0:=by
    intro l hl
    have h1:=hkt l hl
    unfold mulV at h1
    rw [sumR_one (k:=b l) (h.col l hl) ?_,h.base l l hl hl] at h1
    ·unfold kron at h1;rw [if_pos rfl] at h1;grind
    ·intro a ha hne
     by_cases hbase:∃ l',l' < m∧a=b l'
     ·obtain ⟨l',hl',rfl⟩:=hbase
      rw [h.base l l' hl hl']
      unfold kron
      rw [if_neg (fun e=>hne (by rw [e]))];grind
     ·rw [hv a (fun e=>hbase ⟨i,hi,e⟩) (fun hm=>by obtain ⟨l',h1,_,e⟩:=(hmem a).1 hm;exact hbase ⟨l',h1,e⟩)];grind
   rcases hc with rfl | hc
   ·exact hval i hi
   ·obtain ⟨l,h1,_,rfl⟩:=(hmem c).1 hc
    exact hval l h1
  ·intro s hs c hc h1 h2 h3
   have:kron c j - sumR (fun i=>T i j*kron c (b i)) m=0:=by
    rw [sumR_zero m fun a ha=>by
     have:c≠b a:=fun e=>by
      by_cases e2:a=i
      ·exact h1 (by rw [e,e2])
      ·exact h3 ((hmem c).2 ⟨a,ha,e2,e⟩)
     unfold kron;rw [if_neg this];grind]
    unfold kron;rw [if_neg h2];grind
   rw [this];grind
  ·show kron j j - sumR (fun i=>T i j*kron j (b i)) m=1
   rw [sumR_zero m fun a ha=>by unfold kron;rw [if_neg (hnb a ha)];grind]
   unfold kron;rw [if_pos rfl];grind
  ·rw [h.ker]
   intro s hs
   have h1:=mulV_lin2 N (T s) (fun c=>kron c j) (fun c=>sumR (fun i=>T i j*kron c (b i)) m) 1 (-1)
   rw [mulV_kron N _ hj,mulV_sum N _ (fun i=>T i j) b m h.col] at h1
   rw [sumR_one (k:=s) hs fun a ha hne=>by rw [h.base s a hs ha];unfold kron;rw [if_neg (fun e=>hne e.symm)];grind,h.base s s hs hs] at h1
   unfold kron at h1 ⊢
   rw [if_pos rfl] at h1
   rw [show mulV N (T s) (fun c=>(if c=j then (1:Rat) else 0) - sumR (fun i=>T i j*(if c=b i then (1:Rat) else 0)) m)=mulV N (T s) (fun c=>1*(if c=j then (1:Rat) else 0) + -1*sumR (fun i=>T i j*(if c=b i then (1:Rat) else 0)) m) from sumR_congr N fun c _=>by grind]
   rw [h1];grind
end
end Num
end Go.Proofs.YtmppmdmekomjbaaGreatDoor
namespace Go.Proofs.YtmppmdmekomjbaaGreatDoor
namespace Num
set_option linter.unusedVariables false
theorem cellM_eq {M:List (List Str)} {i j:Nat} (hi:i<M.length) (hj:j<M[i].length):cellM M i j=M[i][j]:=by
 unfold cellM
 rw [List.getD_eq_getElem?_getD (l:=M),List.getElem?_eq_getElem hi]
 show M[i].getD j []=_
 rw [List.getD_eq_getElem?_getD,List.getElem?_eq_getElem hj];rfl
theorem getD_eq {M:List (List Str)} {i:Nat} (hi:i<M.length):M.getD i []=M[i]:=by
 rw [List.getD_eq_getElem?_getD,List.getElem?_eq_getElem hi];rfl
structure ClearOps (D k:Nat) (M:List (List Str)) (row col:Nat):Prop where
 row_lt:row<M.length
 col_lt:col<k
 mat:Mat D D k M
 ne:cellM M row col≠[48]
 quo:∀ j,j<k→quoQE (cellM M row j) (cellM M row col)=0∧FrD D D (quoQS (cellM M row j) (cellM M row col))
 less:∀ i,i<M.length→i≠row→∀ j,j<k→mulQE (cellM M i col) (quoQS (cellM M row j) (cellM M row col))=0∧FrD (2*D) (2*D) (mulQS (cellM M i col) (quoQS (cellM M row j) (cellM M row col))) ∧
  subQE (cellM M i j) (mulQS (cellM M i col) (quoQS (cellM M row j) (cellM M row col)))=0∧FrD D D (subQS (cellM M i j) (mulQS (cellM M i col) (quoQS (cellM M row j) (cellM M row col))))
 skip:∀ i,i<M.length→i≠row→∀ j,j<k→cellM M i col=[48]∨quoQS (cellM M row j) (cellM M row col)=[48]→subQS (cellM M i j) (mulQS (cellM M i col) (quoQS (cellM M row j) (cellM M row col)))=cellM M i j
theorem clearM_len (M:List (List Str)) (row col:Nat):(clearM M row col).length=M.length:=by unfold clearM;simp
theorem clearM_row {M:List (List Str)} {row col i:Nat} (hi:i<M.length):(clearM M row col).getD i []=if i=row then scaleR (M.getD row []) (cellM M row col) else lessR (M.getD i []) (scaleR (M.getD row []) (cellM M row col)) (cellM M i col):=by
 unfold clearM
 rw [List.getD_eq_getElem?_getD,List.getElem?_eq_getElem (by simpa using hi)]
 simp
theorem scaleR_get {r:List Str} {p:Str} {j:Nat} (hj:j<r.length):(scaleR r p).getD j []=quoQS (r.getD j []) p:=by
 unfold scaleR
 rw [List.getD_eq_getElem?_getD,List.getElem?_eq_getElem (by simpa using hj),List.getD_eq_getElem?_getD,List.getElem?_eq_getElem hj];simp
theorem lessR_get {r f:List Str} {p:Str} {j:Nat} (hj:j<r.length) (hf:j<f.length):(lessR r f p).getD j []=subQS (r.getD j []) (mulQS p (f.getD j [])):=by
 unfold lessR
 rw [List.getD_eq_getElem?_getD,List.getElem?_eq_getElem (by rw [List.length_zipWith];omega),List.getD_eq_getElem?_getD,List.getElem?_eq_getElem hj,List.getD_eq_getElem?_getD,List.getElem?_eq_getElem hf];simp
theorem clearM_cell {D k:Nat} {M:List (List Str)} {row col i j:Nat} (hM:Mat D D k M) (hr:row<M.length) (hi:i<M.length) (hj:j<k) :
  cellM (clearM M row col) i j=if i=row then quoQS (cellM M row j) (cellM M row col) else subQS (cellM M i j) (mulQS (cellM M i col) (quoQS (cellM M row j) (cellM M row col))):=by
 have h1:=(hM.row hr).1
 have h2:=(hM.row hi).1
 unfold cellM at *
 rw [clearM_row hi]
 split
 ·rw [scaleR_get (by omega)];rfl
 ·rw [lessR_get (by omega) (by unfold scaleR;rw [List.length_map];omega),scaleR_get (by omega)];rfl
theorem clear_ok {D k:Nat} {M:List (List Str)} {row col:Nat} {T:Mx} (hM:Mat D D k M) (hr:row<M.length) (hc:col<k) (hT:∀ i,i<M.length→∀ j,j<k→T i j=rq (cellM M i j)) (hne:cellM M row col≠[48])
  (hB:∀ i,i<M.length→∀ j,j<k→∃ P Q:Int,Q≠0∧dl P≤D∧dl Q≤D∧pivM T row col i j=(P:Rat) / (Q:Rat)) (hD:3*D+1≤4096) :
  ClearOps D k M row col∧Mat D D k (clearM M row col)∧∀ i,i<M.length→∀ j,j<k→pivM T row col i j=rq (cellM (clearM M row col) i j):=by
 have hp:=hM.cell hr hc
 have hp0:rq (cellM M row col)≠0:=fun e=>hne ((rq_zero_iff (hp.right (by omega) (by omega))).1 e)
 have hquo:∀ j,j<k→quoQE (cellM M row j) (cellM M row col)=0∧FrD D D (quoQS (cellM M row j) (cellM M row col))∧pivM T row col row j=rq (quoQS (cellM M row j) (cellM M row col)):=by
  intro j hj
  have ha:=hM.cell hr hj
  have hq:=ha.div hp hp0 (by omega) (by omega) (by omega) (by omega) (by omega) (by omega)
  obtain ⟨P,Q,hQ,h1,h2,h3⟩:=hB row hr j hj
  have hv:pivM T row col row j=rq (quoQS (cellM M row j) (cellM M row col)):=by
   unfold pivM;rw [if_pos rfl,hT row hr j hj,hT row hr col hc,hq.2.2]
  exact ⟨hq.1,FrD.value (hq.2.1.right (by omega) (by omega)) hQ h1 h2 (by omega) (by omega) (by rw [← hv,h3]),hv⟩
 have hless:∀ i,i<M.length→i≠row→∀ j,j<k→(mulQE (cellM M i col) (quoQS (cellM M row j) (cellM M row col))=0∧FrD (2*D) (2*D) (mulQS (cellM M i col) (quoQS (cellM M row j) (cellM M row col))) ∧
   subQE (cellM M i j) (mulQS (cellM M i col) (quoQS (cellM M row j) (cellM M row col)))=0∧FrD D D (subQS (cellM M i j) (mulQS (cellM M i col) (quoQS (cellM M row j) (cellM M row col))))) ∧
   rq (subQS (cellM M i j) (mulQS (cellM M i col) (quoQS (cellM M row j) (cellM M row col))))=rq (cellM M i j) - rq (cellM M i col)*rq (quoQS (cellM M row j) (cellM M row col)) ∧
   pivM T row col i j=rq (subQS (cellM M i j) (mulQS (cellM M i col) (quoQS (cellM M row j) (cellM M row col)))):=by
  intro i hi hne2 j hj
  obtain ⟨q1,q2,q3⟩:=hquo j hj
  have hx:=hM.cell hi hj
  have hf:=hM.cell hi hc
  have hm:=hf.mul q2 (by omega) (by omega)
  have hs:=hx.sub hm.2.1 (by omega) (by omega)
  obtain ⟨P,Q,hQ,h1,h2,h3⟩:=hB i hi j hj
  have hv0:rq (subQS (cellM M i j) (mulQS (cellM M i col) (quoQS (cellM M row j) (cellM M row col))))=rq (cellM M i j) - rq (cellM M i col)*rq (quoQS (cellM M row j) (cellM M row col)):=by rw [hs.2.2,hm.2.2]
  have hv:pivM T row col i j=rq (subQS (cellM M i j) (mulQS (cellM M i col) (quoQS (cellM M row j) (cellM M row col)))):=by
   rw [hv0,← q3]
   unfold pivM;rw [if_neg hne2,if_pos rfl,hT i hi j hj,hT i hi col hc]
  exact ⟨⟨hm.1,hm.2.1.mono (by omega) (by omega),hs.1,FrD.value (hs.2.1.right (by omega) (by omega)) hQ h1 h2 (by omega) (by omega) (by rw [← hv,h3])⟩,hv0,hv⟩
 refine ⟨⟨hr,hc,hM,hne,fun j hj=>⟨(hquo j hj).1,(hquo j hj).2.1⟩,fun i hi h2 j hj=>(hless i hi h2 j hj).1,fun i hi h2 j hj h=>?_⟩,fun r hrm=>?_,fun i hi j hj=>?_⟩
 ·have h3:=hless i hi h2 j hj
  have hx:=hM.cell hi hj
  refine rq_inj (h3.1.2.2.2.right (by omega) (by omega)) (hx.right (by omega) (by omega)) ?_
  rw [h3.2.1]
  rcases h with h | h <;> rw [h,rq_zero] <;> grind
 ·obtain ⟨i,hi,rfl⟩:=List.getElem_of_mem hrm
  rw [clearM_len] at hi
  have hrow:=clearM_row (row:=row) (col:=col) hi
  rw [getD_eq (by rw [clearM_len];exact hi)] at hrow
  have hlen:(clearM M row col)[i].length=k:=by
   rw [hrow]
   have h1:=(hM.row hr).1
   have h2:=(hM.row hi).1
   split
   ·unfold scaleR;rw [List.length_map];exact h1
   ·unfold lessR scaleR;rw [List.length_zipWith,List.length_map];omega
  refine ⟨hlen,fun a ha=>?_⟩
  obtain ⟨j,hj,rfl⟩:=List.getElem_of_mem ha
  rw [← cellM_eq (by rw [clearM_len];exact hi) hj,clearM_cell hM hr hi (by omega)]
  split
  ·exact (hquo j (by omega)).2.1
  ·exact (hless i hi (by assumption) j (by omega)).1.2.2.2
 ·rw [clearM_cell hM hr hi hj]
  split
  ·rename_i e;rw [e];exact (hquo j hj).2.2
  ·exact (hless i hi (by assumption) j hj).2.2
structure RedAt (D k h c:Nat) (R:Nat→Nat→Int) (st:List (List Str) × List Nat):Prop where
 len:st.1.length=h
 mat:Mat D D k st.1
 few:st.2.length≤h
 tab:∃ (T:Mx) (b:Nat→Nat),Tb h (k+h) R T b∧(∀ i,i<h→∀ j,j<k→T i j=rq (cellM st.1 i j))∧(∀ l (hl:l<st.2.length),b l=st.2[l])∧∀ l,st.2.length≤l→l<h→k≤b l
 lt:∀ x ∈ st.2,x<c
 asc:st.2.Pairwise (·< ·)
 low:∀ i,st.2.length≤i→i<h→∀ j,j<c→cellM st.1 i j=[48]
 left:∀ l (hl:l<st.2.length),∀ j,j<st.2[l]→cellM st.1 l j=[48]
theorem one_text {D:Nat} {s:Str} (h:FrD D D s) (hD:D≤4096) (h1:rq s=1):s=[49]:=by
 refine rq_inj (h.right hD hD) (by decide +kernel) ?_
 have h49:rq [49]=1:=by
  have h2:decI 1=[49]:=by decide +kernel
  have:=rq_int 1
  rw [h2] at this
  rw [this];rfl
 rw [h1,h49]
theorem RedAt.pivot {D k h c:Nat} {R:Nat→Nat→Int} {st:List (List Str) × List Nat} (H:RedAt D k h c R st) (hc:c≤k) (hD:D≤4096) {i l:Nat} (hi:i<h) (hl:l<st.2.length):cellM st.1 i st.2[l]=if i=l then [49] else [48]:=by
 obtain ⟨T,b,hT,h1,h2,h3⟩:=H.tab
 have hlt:=H.lt _ (List.getElem_mem hl)
 have hb:=hT.base i l hi (Nat.lt_of_lt_of_le hl H.few)
 have hf:=H.few
 rw [h2 l hl,h1 i hi _ (by omega)] at hb
 have hF:=H.mat.cell (i:=i) (c:=st.2[l]) (by rw [H.len];exact hi) (by omega)
 unfold kron at hb
 by_cases e:i=l
 ·rw [if_pos e] at hb ⊢;exact one_text hF hD hb
 ·rw [if_neg e] at hb ⊢;exact (rq_zero_iff (hF.right hD hD)).1 hb
end Num
end Go.Proofs.YtmppmdmekomjbaaGreatDoor
namespace Go.Proofs.YtmppmdmekomjbaaGreatDoor
namespace Num
set_option linter.unusedVariables false
section
variable {α:Type}
def mixR (n r:List α) (j:Nat):List α:=n.take j ++ r.drop j
theorem mixR_zero (n r:List α):mixR n r 0=r:=by unfold mixR;simp
theorem mixR_len {n r:List α} (h:n.length=r.length) (j:Nat):(mixR n r j).length=r.length:=by unfold mixR;rw [List.length_append,List.length_take,List.length_drop];omega
theorem mixR_full {n r:List α} (h:n.length=r.length) {j:Nat} (hj:j=r.length):mixR n r j=n:=by
 unfold mixR;rw [List.take_of_length_le (by omega),List.drop_eq_nil_of_le (by omega),List.append_nil]
theorem mixR_get? {n r:List α} (h:n.length=r.length) (j i:Nat):(mixR n r j)[i]? = if i<j then n[i]? else r[i]? := by
 unfold mixR
 by_cases hj:j≤n.length
 ·by_cases hi:i<j
  ·rw [if_pos hi,List.getElem?_append_left (by rw [List.length_take];omega),List.getElem?_take_of_lt hi]
  ·rw [if_neg hi,List.getElem?_append_right (by rw [List.length_take];omega),List.length_take,Nat.min_eq_left hj,List.getElem?_drop]
   congr 1;omega
 ·rw [List.take_of_length_le (by omega),List.drop_eq_nil_of_le (by omega),List.append_nil]
  split
  ·rfl
  ·rw [List.getElem?_eq_none (by omega),List.getElem?_eq_none (by omega)]
theorem mixR_getD {n r:List α} (h:n.length=r.length) (j i:Nat) (d:α):(mixR n r j).getD i d=if i<j then n.getD i d else r.getD i d:=by
 rw [List.getD_eq_getElem?_getD,mixR_get? h]
 split <;> rw [List.getD_eq_getElem?_getD]
theorem mixR_succ {n r:List α} (h:n.length=r.length) {j:Nat} (hj:j<r.length) (d:α):(mixR n r j).set j (n.getD j d)=mixR n r (j+1):=by
 apply List.ext_getElem?
 intro i
 rw [List.getElem?_set,mixR_get? h,mixR_get? h,mixR_len h]
 by_cases e:j=i
 ·subst e
  rw [if_pos rfl,if_pos hj,if_pos (by omega),List.getD_eq_getElem?_getD,List.getElem?_eq_getElem (by omega)];rfl
 ·rw [if_neg e]
  by_cases h1:i<j
  ·rw [if_pos h1,if_pos (by omega)]
  ·rw [if_neg h1,if_neg (by omega)]
theorem mixR_skip {n r:List α} (h:n.length=r.length) {j:Nat} (hj:j<r.length) (d:α) (he:n.getD j d=r.getD j d):mixR n r (j+1)=mixR n r j:=by
 rw [← mixR_succ h hj d,he]
 apply List.ext_getElem?
 intro i
 rw [List.getElem?_set]
 by_cases e:j=i
 ·subst e
  rw [if_pos rfl,if_pos (by rw [mixR_len h];exact hj),mixR_get? h,if_neg (by omega),List.getD_eq_getElem?_getD,List.getElem?_eq_getElem hj];rfl
 ·rw [if_neg e]
end
section
variable {D k:Nat} {M:List (List Str)} {row col:Nat} (H:ClearOps D k M row col)
include H
theorem ClearOps.rowlen {i:Nat} (hi:i<M.length):(M.getD i []).length=k:=(H.mat.row hi).1
theorem ClearOps.firstlen:(scaleR (M.getD row []) (cellM M row col)).length=k:=by unfold scaleR;rw [List.length_map];exact H.rowlen H.row_lt
theorem ClearOps.first_get {j:Nat} (hj:j<k):(scaleR (M.getD row []) (cellM M row col)).getD j []=quoQS (cellM M row j) (cellM M row col):=scaleR_get (by rw [H.rowlen H.row_lt];exact hj)
theorem ClearOps.newlen {i:Nat} (hi:i<M.length):((clearM M row col).getD i []).length=k:=by
 rw [clearM_row hi]
 split
 ·exact H.firstlen
 ·unfold lessR;rw [List.length_zipWith,H.firstlen,H.rowlen hi];omega
theorem ClearOps.new_get {i j:Nat} (hi:i<M.length) (hne:i≠row) (hj:j<k):((clearM M row col).getD i []).getD j []=subQS (cellM M i j) (mulQS (cellM M i col) (quoQS (cellM M row j) (cellM M row col))):=by
 have:=clearM_cell H.mat H.row_lt hi hj (col:=col)
 rw [if_neg hne] at this
 exact this
theorem ClearOps.stays {i:Nat} (hi:i<M.length) (hne:i≠row) (hz:cellM M i col=[48]):(clearM M row col).getD i []=M.getD i []:=by
 apply List.ext_getElem?
 intro j
 have h1:=H.newlen hi
 have h2:=H.rowlen hi
 by_cases hj:j<k
 ·have h3:=H.new_get hi hne hj
  rw [H.skip i hi hne j hj (.inl hz)] at h3
  unfold cellM at h3
  generalize (clearM M row col).getD i []=u at *
  generalize M.getD i []=v at *
  rw [List.getElem?_eq_getElem (by omega),List.getElem?_eq_getElem (by omega)]
  rw [List.getD_eq_getElem?_getD,List.getElem?_eq_getElem (by omega),List.getD_eq_getElem?_getD,List.getElem?_eq_getElem (by omega)] at h3
  exact congrArg some h3
 ·rw [List.getElem?_eq_none (by omega),List.getElem?_eq_none (by omega)]
def clrM (M:List (List Str)) (row col i:Nat):List (List Str):=mixR (clearM M row col) (M.set row (scaleR (M.getD row []) (cellM M row col))) i
omit H in
theorem clrM_len (M:List (List Str)) (row col i:Nat):(clrM M row col i).length=M.length:=by
 unfold clrM;rw [mixR_len (by rw [clearM_len,List.length_set]),List.length_set]
omit H in
theorem clr_zero:clrM M row col 0=M.set row (scaleR (M.getD row []) (cellM M row col)):=mixR_zero _ _
omit H in
theorem clr_full:clrM M row col M.length=clearM M row col:=mixR_full (by rw [clearM_len,List.length_set]) (by rw [List.length_set])
theorem ClearOps.clr_row {l:Nat} (i:Nat) (hl:l<M.length):(clrM M row col i).getD l []=if l<i∨l=row then (clearM M row col).getD l [] else M.getD l []:=by
 unfold clrM
 rw [mixR_getD (by rw [clearM_len,List.length_set]),List.getD_eq_getElem?_getD (l:=M.set _ _),List.getElem?_set]
 by_cases h1:l<i
 ·rw [if_pos h1,if_pos (.inl h1)]
 ·rw [if_neg h1]
  by_cases h2:row=l
  ·subst h2
   rw [if_pos rfl,if_pos H.row_lt,if_pos (.inr rfl),clearM_row H.row_lt,if_pos rfl];rfl
  ·rw [if_neg h2,if_neg (by omega),List.getD_eq_getElem?_getD]
theorem ClearOps.clr_rowlen {l:Nat} (i:Nat) (hl:l<M.length):((clrM M row col i).getD l []).length=k:=by
 rw [H.clr_row i hl]
 split
 ·exact H.newlen hl
 ·exact H.rowlen hl
theorem ClearOps.clr_skip {i:Nat} (hi:i<M.length) (h:i=row∨cellM M i col=[48]):clrM M row col (i+1)=clrM M row col i:=by
 unfold clrM
 refine mixR_skip (by rw [clearM_len,List.length_set]) (by rw [List.length_set];exact hi) [] ?_
 rw [List.getD_eq_getElem?_getD (l:=M.set _ _),List.getElem?_set]
 by_cases e:row=i
 ·subst e
  rw [if_pos rfl,if_pos hi,clearM_row hi,if_pos rfl];rfl
 ·rw [if_neg e,← List.getD_eq_getElem?_getD]
  exact H.stays hi (fun h=>e h.symm) (h.resolve_left (fun h=>e h.symm))
omit H in
theorem clr_succ {i:Nat} (hi:i<M.length):(clrM M row col i).set i ((clearM M row col).getD i [])=clrM M row col (i+1):=by
 unfold clrM
 exact mixR_succ (by rw [clearM_len,List.length_set]) (by rw [List.length_set];exact hi) []
end
end Num
end Go.Proofs.YtmppmdmekomjbaaGreatDoor
namespace Go.Proofs.YtmppmdmekomjbaaGreatDoor
namespace Num
set_option linter.unusedVariables false
section
variable {k h:Nat} {R:Nat→Nat→Int} {m:List (List Str)} {T:Mx} {b:Nat→Nat}
theorem sumR_app (f:Nat→Rat) (k h:Nat):sumR f (k+h)=sumR f k+sumR (fun j=>f (k+j)) h:=by
 induction h with
 | zero=>show sumR f k=sumR f k+0;grind
 | succ h ih=>show sumR f (k+h)+f (k+h)=sumR f k+(sumR (fun j=>f (k+j)) h+f (k+h));rw [ih];grind
end
theorem sumR_swap (f:Nat→Nat→Rat) (a b:Nat):sumR (fun i=>sumR (fun j=>f i j) b) a=sumR (fun j=>sumR (fun i=>f i j) a) b:=by
 induction a with
 | zero=>exact (sumR_zero b fun j _=>rfl).symm
 | succ a ih =>
  show sumR (fun i=>sumR (fun j=>f i j) b) a+sumR (fun j=>f a j) b=_
  rw [ih,← sumR_add];rfl
end Num
end Go.Proofs.YtmppmdmekomjbaaGreatDoor

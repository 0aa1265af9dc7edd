/- Which sequences of visits are enumerated. Plain. -/
import Derived.Test.YtjcekdiocliddaaGreatDoorTnH
namespace Go.Proofs.YtjcekdiocliddaaGreatDoor
open Num Txt Pf Tk
set_option linter.unusedVariables false
theorem mV {x:IV} {i:Int} {v:Int × Bool}:v ∈ vO x i↔v.1=i/\∃ o,OA x i=some o/\0<=(if v.2 then o.drop else o.pick).place:=by
 unfold vO
 cases h:OA x i with
 |none=>simp
 |some o =>
  obtain ⟨a,b⟩:=v;simp only [Option.some.injEq,exists_eq_left'];rw [List.mem_append]
  cases b with
  |true =>
   simp only [if_true];constructor
   ·rintro (h1 | h1)
    ·split at h1 <;> simp at h1
    ·split at h1
     ·rename_i h2;simp at h1;exact ⟨h1,h2⟩
     ·simp at h1
   ·rintro ⟨rfl,h2⟩
    exact .inr (by rw [if_pos h2];simp)
  |false =>
   simp only [Bool.false_eq_true,if_false];constructor
   ·rintro (h1 | h1)
    ·split at h1
     ·rename_i h2;simp at h1;exact ⟨h1,h2⟩
     ·simp at h1
    ·split at h1 <;> simp at h1
   ·rintro ⟨rfl,h2⟩
    exact .inl (by rw [if_pos h2];simp)
theorem mf {x:IV} {i:Int} {v:Int × Bool} (h:v ∈ vO x i):v.1=i:=(mV.1 h).1
theorem visits_nodup (x:IV) (i:Int):(vO x i).Nodup:=by
 unfold vO
 cases h:OA x i with
 |none=>simp
 |some o =>
  simp only;split <;> split <;> simp
theorem vS {x:IV} (hok:IK x) {i:Int} (h0:0<=i) (h1:i<(x.ords.length:Int)):∃ v,v ∈ vO x i:=by
 obtain ⟨o,ho⟩:∃ o,OA x i=some o:=by
  unfold OA;rw [if_neg (by omega)];exact ⟨_,List.getElem?_eq_getElem (show i.toNat<x.ords.length by omega)⟩
 have hs:=(hok.ordsX o (Om ho)).some;have hp:=hok.ords o (Om ho);rcases hs with hs | hs
 ·refine ⟨(i,false),mV.2 ⟨rfl,o,ho,?_⟩⟩
  have:=hp.1.ok;simp only [Bool.false_eq_true,if_false];omega
 ·refine ⟨(i,true),mV.2 ⟨rfl,o,ho,?_⟩⟩
  have:=hp.2.ok;simp only [if_true];omega
theorem mn {x:IV} {s:Nat} {l:List (Int × Bool)} {v:Int × Bool}:v ∈ NV x s l↔(0<=v.1/\v.1<(x.ords.length:Int))/\Aa s v.1=true/\oO x v.1=false/\v ∈ vO x v.1/\rV x l v=true:=by
 unfold NV nK;rw [List.mem_flatMap];constructor
 ·rintro ⟨i,hi,h⟩
  have hi:=List.mem_range.1 hi;unfold Cb at h;split at h
  ·rename_i hc
   rw [Bool.and_eq_true] at hc;obtain ⟨h1,h2⟩:=List.mem_filter.1 h;have h3:=mf h1;rw [h3];refine ⟨by omega,hc.1,by simpa using hc.2,h1,h2⟩
  ·simp at h
 ·rintro ⟨hr,h1,h2,h3,h4⟩
  refine ⟨v.1.toNat,List.mem_range.2 (by omega),?_⟩;have e:((v.1.toNat:Nat):Int)=v.1:=by omega
  rw [e];unfold Cb;rw [h1,h2];exact List.mem_filter.2 ⟨h3,h4⟩
theorem pre_iff {x:IV} {l:List (Int × Bool)} {v:Int × Bool} (hv:v ∈ vO x v.1):pO l v (vO x v.1)=true↔(v.2=true->(v.1,false) ∈ vO x v.1->(v.1,false) ∈ l):=by
 obtain ⟨i,b⟩:=v;unfold vO at hv ⊢
 cases h:OA x i with
 |none=>simp only [h] at hv;simp at hv
 |some o =>
  simp only [h] at hv ⊢;by_cases h1:0<=o.pick.place
  ·by_cases h2:0<=o.drop.place
   ·rw [if_pos h1,if_pos h2] at hv ⊢
    cases b <;> simp [pO,iV,Af]
   ·rw [if_pos h1,if_neg h2] at hv ⊢
    cases b <;> simp [pO,iV] at hv ⊢
  ·by_cases h2:0<=o.drop.place
   ·rw [if_neg h1,if_pos h2] at hv ⊢
    cases b <;> simp [pO,iV] at hv ⊢
   ·rw [if_neg h1,if_neg h2] at hv
    simp at hv
theorem Ri {x:IV} {l:List (Int × Bool)} {v:Int × Bool} (hv:v ∈ vO x v.1):rV x l v=true↔v ∉ l/\(v.2=true->(v.1,false) ∈ vO x v.1->(v.1,false) ∈ l)/\∀ p ∈ x.before,p.2=v.1->∀ u ∈ vO x p.1,u ∈ l:=by
 unfold rV;rw [Bool.and_eq_true,Bool.and_eq_true,pre_iff hv,List.all_eq_true,and_assoc];refine and_congr ?_ (and_congr Iff.rfl ?_)
 ·rw [Bool.not_eq_true',<- Bool.not_eq_true,Af]
 ·constructor
  ·intro h p hp he u hu
   have:=h p hp;unfold nO at this;rw [if_pos he,List.all_eq_true] at this;exact Af.1 (this u hu)
  ·intro h p hp
   unfold nO;split
   ·rename_i he
    rw [List.all_eq_true];exact fun u hu=>Af.2 (h p hp he u hu)
   ·rfl
def BT (x:IV) (s:Nat) (l:List (Int × Bool)):Prop:=∀ k (h:k<l.length),l[k] ∈ NV x s (l.take k)
theorem BT.take {x:IV} {s:Nat} {l:List (Int × Bool)} (h:BT x s l) (k:Nat):BT x s (l.take k):=fun j hj=>by
 rw [List.length_take] at hj;have:=h j (by omega);rw [List.getElem_take,List.take_take,Nat.min_eq_left (by omega)];exact this
theorem Ms {x:IV} {s:Nat}:∀ (n:Nat) (l vs:List (Int × Bool)),vs ∈ sF x s n l↔∃ us,us.length=n/\vs=l ++ us/\∀ k (h:k<us.length),us[k] ∈ NV x s (l ++ us.take k)
 |0,l,vs=>by
  rw [sF];constructor
  ·intro h
   exact ⟨[],rfl,by simpa using h,fun k h=>absurd h (Nat.not_lt_zero _)⟩
  ·rintro ⟨us,h1,h2,_⟩
   have:=List.length_eq_zero_iff.1 h1;subst this;simp [h2]
 |n+1,l,vs=>by
  rw [sF,List.mem_flatMap];constructor
  ·rintro ⟨v,hv,h⟩
   obtain ⟨us,h1,h2,h3⟩:=(Ms n _ _).1 h;refine ⟨v :: us,by simp [h1],by rw [h2];simp,fun k hk=>?_⟩
   cases k with
   |zero=>simpa using hv
   |succ k =>
    have:=h3 k (by simpa using hk);rw [List.append_assoc] at this;exact this
  ·rintro ⟨us,h1,h2,h3⟩
   cases us with
   |nil=>simp at h1
   |cons v us =>
    refine ⟨v,by have h:=h3 0 (by simp);rw [List.getElem_cons_zero,List.take_zero,List.append_nil] at h;exact h,(Ms n _ _).2 ⟨us,by simpa using h1,by rw [h2];simp,fun k hk=>?_⟩⟩;have:=h3 (k+1) (by simpa using hk);rw [List.append_assoc];exact this
theorem me {x:IV} {s n:Nat} {vs:List (Int × Bool)}:vs ∈ sF x s n []↔vs.length=n/\BT x s vs:=by
 rw [Ms];constructor
 ·rintro ⟨us,h1,h2,h3⟩
  rw [List.nil_append] at h2;subst h2;exact ⟨h1,fun k hk=>h3 k hk⟩
 ·rintro ⟨h1,h2⟩
  exact ⟨vs,h1,rfl,fun k hk=>h2 k hk⟩
def aK (x:IV) (s k:Nat):List (Int × Bool):=(List.range k).flatMap fun i:Nat=>if s.testBit i then vO x (i:Int) else []
theorem allK_succ (x:IV) (s k:Nat):aK x s (k+1)=aK x s k ++ if s.testBit k then vO x (k:Int) else []:=by
 unfold aK;rw [List.range_succ,List.flatMap_append];simp
theorem allK_len (x:IV) (s:Nat):∀ k,(aK x s k).length=Aw x s k
 |0=>rfl
 |k+1=>by
  rw [allK_succ,List.length_append,allK_len x s k,tK];split <;> rfl
theorem Ma {x:IV} {s k:Nat} {v:Int × Bool}:v ∈ aK x s k↔∃ i:Nat,i<k/\s.testBit i=true/\v ∈ vO x (i:Int):=by
 unfold aK;rw [List.mem_flatMap];constructor
 ·rintro ⟨i,hi,h⟩
  split at h
  ·rename_i hb;exact ⟨i,List.mem_range.1 hi,hb,h⟩
  ·simp at h
 ·rintro ⟨i,hi,hb,h⟩
  exact ⟨i,List.mem_range.2 hi,by rw [if_pos hb];exact h⟩
theorem allK_nodup (x:IV) (s:Nat):∀ k,(aK x s k).Nodup
 |0=>by simp [aK]
 |k+1=>by
  rw [allK_succ,List.nodup_append];refine ⟨allK_nodup x s k,by split;exact visits_nodup x _;simp,fun a ha b hb e=>?_⟩;subst e;obtain ⟨i,hi,_,h1⟩:=Ma.1 ha;have e1:=mf h1;split at hb
  ·have e2:=mf hb
   omega
  ·simp at hb
theorem De {α:Type} [DecidableEq α]:∀ (l m:List α),l.Nodup->(∀ a ∈ l,a ∈ m)->l.length<=m.length
 |[],m,_,_=>Nat.zero_le _
 |a :: l,m,hn,hs=>by
  rw [List.nodup_cons] at hn;have ha:a ∈ m:=hs a (by simp)
  have:=De l (m.erase a) hn.2 fun b hb=>by
   have hne:b≠a:=fun e=>hn.1 (e ▸ hb);exact (List.mem_erase_of_ne hne).2 (hs b (by simp [hb]))
  rw [List.length_erase_of_mem ha] at this;have hp:=List.length_pos_of_mem ha;rw [List.length_cons];omega
theorem sub_all {α:Type} [DecidableEq α] {l m:List α} (hn:l.Nodup) (hs:∀ a ∈ l,a ∈ m) (he:m.length<=l.length):∀ a ∈ m,a ∈ l:=fun a ha=>by
 apply Classical.byContradiction
 intro hna
 have:=De (a :: l) m (List.nodup_cons.2 ⟨hna,hn⟩) fun b hb=>by
  rcases List.mem_cons.1 hb with rfl | hb
  ·exact ha
  ·exact hs b hb
 rw [List.length_cons] at this;omega
theorem BT.nodup {x:IV} {s:Nat} {l:List (Int × Bool)} (h:BT x s l):l.Nodup:=by
 rw [List.nodup_iff_pairwise_ne,List.pairwise_iff_getElem];intro i j hi hj hij e;obtain ⟨_,_,_,hv,hr⟩:=mn.1 (h j hj);exact ((Ri hv).1 hr).1 (List.mem_take_iff_getElem.2 ⟨i,by omega,e⟩)
theorem BT.sub {x:IV} {s:Nat} {l:List (Int × Bool)} (h:BT x s l) (h3:x.ords.length<=62):∀ v ∈ l,v ∈ aK x s x.ords.length:=fun v hv=>by
 obtain ⟨k,hk,rfl⟩:=List.getElem_of_mem hv;obtain ⟨hr,hs,_,hv2,_⟩:=mn.1 (h k hk);obtain ⟨o,ho⟩:∃ o:Nat,l[k].1=(o:Int):=⟨l[k].1.toNat,by omega⟩
 rw [ho] at hs hv2 hr;exact Ma.2 ⟨o,by omega,by rw [Ht (by omega)] at hs;exact hs,hv2⟩
theorem BT.all {x:IV} {s:Nat} {l:List (Int × Bool)} (h:BT x s l) (h3:x.ords.length<=62) (hl:l.length=Ad x s):∀ v ∈ aK x s x.ords.length,v ∈ l :=
 sub_all h.nodup (h.sub h3) (by rw [allK_len,hl];exact Nat.le_refl _)
theorem mB {vs:List (Int × Bool)} {i:Nat}:(sV vs).testBit i=true↔∃ v ∈ vs,v.1.toNat=i:=by
 have key:∀ (l:List (Int × Bool)) (s:Nat),(l.foldl (fun s v=>s ||| 1 <<< v.1.toNat) s).testBit i=true↔s.testBit i=true∨∃ v ∈ l,v.1.toNat=i:=by
  intro l
  induction l with
  |nil=>intro s;simp
  |cons v l ih =>
   intro s;rw [List.foldl_cons,ih,Nat.testBit_or,Bool.or_eq_true,Nat.one_shiftLeft,Nat.testBit_two_pow,or_assoc];refine or_congr Iff.rfl ?_;simp
 unfold sV;rw [key];simp
theorem Cg {vs:List (Int × Bool)} {i:Int} (h:∀ v ∈ vs,0<=v.1/\v.1<=62):Aa (sV vs) i=true↔Ai vs i=true:=by
 rw [Hf];by_cases hi:0<=i/\i<=62
 ·obtain ⟨o,rfl⟩:∃ o:Nat,i=(o:Int):=⟨i.toNat,by omega⟩
  rw [Ht (by omega),mB];constructor
  ·rintro ⟨v,hv,e⟩
   have:=h v hv;exact ⟨v,hv,by omega⟩
  ·rintro ⟨v,hv,e⟩
   exact ⟨v,hv,by omega⟩
 ·constructor
  ·intro h2
   unfold Aa at h2;have:=of_decide_eq_true h2;exact absurd ⟨this.1,this.2.1⟩ hi
  ·rintro ⟨v,hv,e⟩
   have:=h v hv;exact absurd (by omega) hi
theorem idx_of {l:List (Int × Bool)} (hn:l.Nodup) {k:Nat} (hk:k<l.length):IZ (iV l[k]) l=(k:Int):=by
 refine It hk (fun j hj hjk=>?_) (ii.2 rfl);rw [<- Bool.not_eq_true,ii];intro e;rw [List.nodup_iff_pairwise_ne,List.pairwise_iff_getElem] at hn;exact hn j k hj hk hjk e
theorem idx_at {l:List (Int × Bool)} (hn:l.Nodup) {k:Nat} {v:Int × Bool} (hk:k<l.length) (e:l[k]=v):IZ (iV v) l=(k:Int):=by subst e;exact idx_of hn hk
theorem asc_iff {x:IV} {l:List (Int × Bool)} {i:Int} (hn:l.Nodup) (hall:∀ u ∈ vO x i,u ∈ l) :
  aV l (-1) (vO x i)=true↔((i,false) ∈ vO x i->(i,true) ∈ vO x i->IZ (iV (i,false)) l<IZ (iV (i,true)) l):=by
 have hge:∀ u ∈ vO x i,(-1:Int)<IZ (iV u) l:=fun u hu=>by
  obtain ⟨k,hk,e⟩:=List.getElem_of_mem (hall u hu);subst e;rw [idx_of hn hk];omega
 have hvis:vO x i=[]∨vO x i=[(i,false)]∨vO x i=[(i,true)]∨vO x i=[(i,false),(i,true)]:=by
  unfold vO
  cases OA x i with
  |none=>exact .inl rfl
  |some o =>
   simp only;split <;> split
   ·exact .inr (.inr (.inr rfl))
   ·exact .inr (.inl rfl)
   ·exact .inr (.inr (.inl rfl))
   ·exact .inl rfl
 rcases hvis with e | e | e | e
 ·rw [e];simp [aV]
 ·rw [e] at hge ⊢
  have:=hge (i,false) (by simp);simp [aV,this]
 ·rw [e] at hge ⊢
  have:=hge (i,true) (by simp);simp [aV,this]
 ·rw [e] at hge ⊢
  have:=hge (i,false) (by simp);simp [aV,this]
structure Bc (x:IV) (l:List (Int × Bool)):Prop where
 pos:0<l.length
 rng:∀ v ∈ l,0<=v.1/\v.1<(x.ords.length:Int)
 off:∀ v ∈ l,oO x v.1=false
 nodup:l.Nodup
 vis:∀ v ∈ l,v ∈ vO x v.1
 all:∀ v ∈ l,∀ u ∈ vO x v.1,u ∈ l
 asc:∀ (i:Int) (a b:Nat) (ha:a<l.length) (hb:b<l.length),l[a]=(i,false)->l[b]=(i,true)->a<b
 apart:∀ p ∈ x.apart,(Ai l p.1 && Ai l p.2)=false
 before:∀ p ∈ x.before,∀ (b:Nat) (hb:b<l.length),l[b].1=p.2->Ai l p.1=true/\∀ (a:Nat) (ha:a<l.length),l[a].1=p.1->a<b
theorem bef_iff {l:List (Int × Bool)} {p:Int × Int}:BB l p=false↔∀ (b:Nat) (hb:b<l.length),l[b].1=p.2->Ai l p.1=true/\∀ (a:Nat) (ha:a<l.length),l[a].1=p.1->a<b:=by
 unfold BB bV;rcases iS (iO p.2) l with ⟨h1,h2⟩ | ⟨k,hk,h1,h2,_,h4⟩
 ·rw [h1,if_pos (by decide)]
  refine ⟨fun _ b hb e=>?_,fun _=>rfl⟩;rw [List.any_eq_false] at h2;exact absurd (by unfold iO;rw [e];exact beq_self_eq_true _) (h2 _ (List.getElem_mem hb))
 ·rw [h1,if_neg (by omega),Int.toNat_natCast,Bool.not_eq_false',Bool.and_eq_true,Bool.not_eq_true',<- Bool.not_eq_true,Hf (l:=l.drop k)]
  have hk2:l[k].1=p.2:=by unfold iO at h2;simpa using h2
  constructor
  ·rintro ⟨h5,h6⟩ b hb e
   refine ⟨h5,fun a ha e2=>?_⟩
   have hbk:k<=b:=by
    rcases Nat.lt_or_ge b k with h7 | h7
    ·have:=h4 b hb h7
     unfold iO at this;rw [e] at this;simp at this
    ·exact h7
   rcases Nat.lt_or_ge a b with h7 | h7
   ·exact h7
   ·refine absurd ⟨l[a],?_,e2⟩ h6
    rw [List.mem_drop_iff_getElem];exact ⟨a - k,by omega,by congr 1;omega⟩
  ·intro h
   obtain ⟨h5,h6⟩:=h k hk hk2;refine ⟨h5,?_⟩;rintro ⟨v,hv,e⟩;obtain ⟨j,hj,rfl⟩:=List.mem_drop_iff_getElem.1 hv;have:=h6 (k+j) (by omega) e;omega
theorem seqOK_iff {x:IV} {l:List (Int × Bool)}:sE x l=0↔Bc x l:=by
 unfold sE;constructor
 ·intro h
  split at h
  ·cases h
  rename_i g0;split at h
  ·cases h
  rename_i g1;split at h
  ·cases h
  rename_i g2;split at h
  ·cases h
  rename_i g3;split at h
  ·cases h
  rename_i g4;split at h
  ·cases h
  rename_i g5;split at h
  ·cases h
  rename_i g6;have hrng:=bad_rng ((Bool.not_eq_true _).mp g1);have hnd:=Tp.1 ((Bool.not_eq_true _).mp g3);have hp:pV x l=true:=by simpa using g4
  unfold pV at hp;rw [List.all_eq_true] at hp
  have hvis:∀ v ∈ l,v ∈ vO x v.1:=fun v hv=>by
   have:=hp v hv;rw [Bool.and_eq_true,Af] at this;exact this.1
  have hasc:∀ v ∈ l,aV l (-1) (vO x v.1)=true:=fun v hv=>by
   have:=hp v hv;rw [Bool.and_eq_true] at this;exact this.2
  have hin:∀ (ws:List (Int × Bool)) (last:Int),-1<=last->aV l last ws=true->∀ u ∈ ws,u ∈ l:=by
   intro ws
   induction ws with
   |nil=>intro _ _ _ u hu;simp at hu
   |cons a ws ih =>
    intro last hl h u hu;rw [aV,Bool.and_eq_true] at h;have h1:=of_decide_eq_true h.1;rcases List.mem_cons.1 hu with rfl | hu
    ·rcases iS (iV u) l with ⟨h2,_⟩ | ⟨k,hk,_,h3,_,_⟩
     ·omega
     ·have:=ii.1 h3
      rw [<- this];exact List.getElem_mem hk
    ·exact ih _ (by omega) h.2 u hu
  have hall:∀ v ∈ l,∀ u ∈ vO x v.1,u ∈ l:=fun v hv u hu=>hin _ _ (Int.le_refl _) (hasc v hv) u hu;refine ⟨by omega,hrng,fun v hv=>?_,hnd,hvis,hall,fun i a b ha hb e1 e2=>?_,fun p hp2=>?_,fun p hp2=>?_⟩
  ·have:=(Bool.not_eq_true _).mp g2
   rw [List.any_eq_false] at this;have:=this v hv;unfold oV at this;simpa using this
  ·have hma:(i,false) ∈ l:=e1 ▸ List.getElem_mem ha
   have hmb:(i,true) ∈ l:=e2 ▸ List.getElem_mem hb;have:=(asc_iff hnd (hall _ hma)).1 (hasc _ hma) (hvis _ hma) (hvis _ hmb);rw [idx_at hnd ha e1,idx_at hnd hb e2] at this;omega
  ·have:=(Bool.not_eq_true _).mp g5
   rw [List.any_eq_false] at this;have:=this p hp2;unfold aB at this;simpa using this
  ·have:=(Bool.not_eq_true _).mp g6
   rw [List.any_eq_false] at this;exact bef_iff.1 ((Bool.not_eq_true _).mp (this p hp2))
 ·intro h
  rw [if_neg (by have:=h.pos;omega),if_neg,if_neg,if_neg,if_neg,if_neg,if_neg]
  ·rw [List.any_eq_true]
   rintro ⟨p,hp,hb⟩;have:=bef_iff.2 (h.before p hp);rw [this] at hb;cases hb
  ·rw [List.any_eq_true]
   rintro ⟨p,hp,hb⟩;have:=h.apart p hp;unfold aB at hb;rw [this] at hb;cases hb
  ·rw [Bool.not_eq_true,Bool.not_eq_false']
   unfold pV;rw [List.all_eq_true];intro v hv;rw [Bool.and_eq_true,Af];refine ⟨h.vis v hv,(asc_iff h.nodup (h.all v hv)).2 fun h1 h2=>?_⟩;obtain ⟨a,ha,e1⟩:=List.getElem_of_mem (h.all v hv _ h1);obtain ⟨b,hb,e2⟩:=List.getElem_of_mem (h.all v hv _ h2);have:=h.asc v.1 a b ha hb e1 e2;rw [idx_at h.nodup ha e1,idx_at h.nodup hb e2];omega
  ·rw [Tp.2 h.nodup];decide
  ·rw [List.any_eq_true]
   rintro ⟨v,hv,hb⟩;unfold oV at hb;rw [h.off v hv] at hb;cases hb
  ·rw [List.any_eq_true]
   rintro ⟨v,hv,hb⟩;have:=h.rng v hv;unfold bO inOrds at hb;rw [decide_eq_true this.1,decide_eq_true this.2] at hb;cases hb
theorem Bc.path {x:IV} {l:List (Int × Bool)} (h:Bc x l) {a b:Nat} (hp:Path x.ords.length x.before a b):∀ (j:Nat) (hj:j<l.length),l[j].1=(b:Int)->Ai l (a:Int)=true/\∀ (i:Nat) (hi:i<l.length),l[i].1=(a:Int)->i<j:=by
 induction hp with
 |one hm ha hb=>exact fun j hj e=>h.before _ hm j hj e
 |step hp hm hb hc ih =>
  intro j hj e;obtain ⟨h1,h2⟩:=h.before _ hm j hj e;obtain ⟨v,hv,e2⟩:=Hf.1 h1;obtain ⟨k,hk,rfl⟩:=List.getElem_of_mem hv;obtain ⟨h3,h4⟩:=ih k hk e2;refine ⟨h3,fun i hi e3=>?_⟩;have:=h4 i hi e3;have:=h2 k hk e2;omega
theorem Bc.bit {x:IV} {l:List (Int × Bool)} (h:Bc x l) (h3:x.ords.length<=62) {i:Int}:Aa (sV l) i=true↔Ai l i=true:=Cg fun v hv=>by
 have:=h.rng v hv;omega
theorem Bc.allow {x:IV} {l:List (Int × Bool)} (h:Bc x l) (h3:x.ords.length<=62):AP x (sV l):=by
 refine ⟨fun i hi=>?_,fun p hp=>?_,fun p hp=>?_,fun k hk hpath=>?_⟩
 ·rw [mS,h.bit h3] at hi
  obtain ⟨v,hv,rfl⟩:=Hf.1 hi;exact h.off v hv
 ·have h1:=h.apart p hp
  rw [Bool.and_eq_false_iff] at h1 ⊢;rcases h1 with h1 | h1
  ·refine .inl ?_
   rw [<- Bool.not_eq_true,h.bit h3,h1];decide
  ·refine .inr ?_
   rw [<- Bool.not_eq_true,h.bit h3,h1];decide
 ·rw [<- Bool.not_eq_true,Bool.and_eq_true,Bool.not_eq_true',<- Bool.not_eq_true,h.bit h3,h.bit h3]
  rintro ⟨h1,h2⟩;obtain ⟨v,hv,e⟩:=Hf.1 h1;obtain ⟨j,hj,rfl⟩:=List.getElem_of_mem hv;exact h2 (h.before p hp j hj e).1
 ·rw [mS,h.bit h3] at hk
  obtain ⟨v,hv,e⟩:=Hf.1 hk;obtain ⟨j,hj,rfl⟩:=List.getElem_of_mem hv;have:=(h.path hpath j hj e).2 j hj e;omega
theorem Bc.mem {x:IV} {l:List (Int × Bool)} (h:Bc x l) (h3:x.ords.length<=62):l ∈ sF x (sV l) (Ad x (sV l)) []:=by
 have hsub:∀ v ∈ l,v ∈ aK x (sV l) x.ords.length:=fun v hv=>by
  have:=h.rng v hv;refine Ma.2 ⟨v.1.toNat,by omega,mB.2 ⟨v,hv,rfl⟩,?_⟩;rw [show ((v.1.toNat:Nat):Int)=v.1 by omega];exact h.vis v hv
 have hsup:∀ v ∈ aK x (sV l) x.ords.length,v ∈ l:=fun v hv=>by
  obtain ⟨i,hi,hb,hv2⟩:=Ma.1 hv;obtain ⟨u,hu,e⟩:=mB.1 hb;have:=h.rng u hu;refine h.all u hu v ?_;rw [show u.1=(i:Int) by omega];exact hv2
 have hlen:l.length=Ad x (sV l):=by
  have h1:=De l _ h.nodup hsub;have h2:=De _ l (allK_nodup x (sV l) x.ords.length) hsup;rw [allK_len] at h1 h2;unfold Ad;omega
 refine me.2 ⟨hlen,fun k hk=>?_⟩;have hm:=List.getElem_mem hk;refine mn.2 ⟨h.rng _ hm,(h.bit h3).2 (Hf.2 ⟨_,hm,rfl⟩),h.off _ hm,h.vis _ hm,(Ri (h.vis _ hm)).2 ⟨fun ht=>?_,fun h1 h2=>?_,fun p hp e u hu=>?_⟩⟩
 ·obtain ⟨j,hj,e⟩:=List.mem_take_iff_getElem.1 ht
  have:=h.nodup;rw [List.nodup_iff_pairwise_ne,List.pairwise_iff_getElem] at this;exact this j k (by omega) hk (by omega) e
 ·obtain ⟨a,ha,e1⟩:=List.getElem_of_mem (h.all _ hm _ h2)
  have:=h.asc l[k].1 a k ha hk e1 (by rw [<- h1]);exact List.mem_take_iff_getElem.2 ⟨a,by omega,e1⟩
 ·obtain ⟨h1,h2⟩:=h.before p hp k hk e.symm
  obtain ⟨v,hv,e2⟩:=Hf.1 h1;have hu2:u ∈ l:=h.all v hv u (by rw [e2];exact hu);obtain ⟨a,ha,rfl⟩:=List.getElem_of_mem hu2;have:=h2 a ha (mf hu);exact List.mem_take_iff_getElem.2 ⟨a,by omega,rfl⟩
theorem seqs_right {x:IV} (hok:IK x) {s:Nat} (hs:s<2 ^ x.ords.length) (hs0:0<s) (ha:AP x s) {l:List (Int × Bool)} (hl:l ∈ sF x s (Ad x s) []):Bc x l/\sV l=s:=by
 have h3:x.ords.length<=62:=Nat.le_trans hok.no (by decide);obtain ⟨hlen,hb⟩:=me.1 hl;have hall:=hb.all h3 hlen;have hord:∀ i:Int,Aa s i=true->0<=i/\i<(x.ords.length:Int):=fun i hi=>Mt hs (mS.2 hi)
 have hin:∀ i:Int,Aa s i=true->∀ u ∈ vO x i,u ∈ l:=fun i hi u hu=>by
  have hr:=hord i hi;obtain ⟨o,rfl⟩:∃ o:Nat,i=(o:Int):=⟨i.toNat,by omega⟩
  exact hall u (Ma.2 ⟨o,by omega,by rw [Ht (by omega)] at hi;exact hi,hu⟩)
 have hmem:∀ k (hk:k<l.length),(0<=l[k].1/\l[k].1<(x.ords.length:Int))/\Aa s l[k].1=true/\oO x l[k].1=false/\l[k] ∈ vO x l[k].1/\rV x (l.take k) l[k]=true:=fun k hk=>mn.1 (hb k hk)
 have hrng:∀ v ∈ l,0<=v.1/\v.1<(x.ords.length:Int):=fun v hv=>by
  obtain ⟨k,hk,rfl⟩:=List.getElem_of_mem hv;exact (hmem k hk).1
 have hbit:∀ i:Int,Ai l i=true↔Aa s i=true:=fun i=>by
  rw [Hf];constructor
  ·rintro ⟨v,hv,rfl⟩
   obtain ⟨k,hk,rfl⟩:=List.getElem_of_mem hv;exact (hmem k hk).2.1
  ·intro hi
   have hr:=hord i hi;obtain ⟨u,hu⟩:=vS hok hr.1 hr.2;exact ⟨u,hin i hi u hu,mf hu⟩
 refine ⟨⟨?_,hrng,fun v hv=>?_,hb.nodup,fun v hv=>?_,fun v hv u hu=>?_,fun i a b ha1 hb1 e1 e2=>?_,fun p hp=>?_,fun p hp b hb1 e=>?_⟩,?_⟩
 ·obtain ⟨i,hi⟩:=Nat.exists_testBit_of_ne_zero (show s≠0 by omega)
  have hi62:i<=62:=by
   rcases Nat.lt_or_ge i x.ords.length with h | h
   ·omega
   ·have:=Nat.testBit_lt_two_pow (Nat.lt_of_lt_of_le hs (Nat.pow_le_pow_right (n:=2) (by decide) h))
    rw [this] at hi;cases hi
  obtain ⟨v,hv,_⟩:=Hf.1 ((hbit (i:Int)).2 (by rw [Ht hi62];exact hi));exact List.length_pos_of_mem hv
 ·obtain ⟨k,hk,rfl⟩:=List.getElem_of_mem hv
  exact (hmem k hk).2.2.1
 ·obtain ⟨k,hk,rfl⟩:=List.getElem_of_mem hv
  exact (hmem k hk).2.2.2.1
 ·exact hin v.1 ((hbit _).1 (Hf.2 ⟨v,hv,rfl⟩)) u hu
 ·obtain ⟨_,_,_,h4,h5⟩:=hmem b hb1
  have hpk:(i,false) ∈ vO x i:=by
   have:=(hmem a ha1).2.2.2.1;rw [e1] at this;exact this
  have:=((Ri h4).1 h5).2.1 (by rw [e2]) (by rw [e2];exact hpk);rw [e2] at this;obtain ⟨c,hc,e3⟩:=List.mem_take_iff_getElem.1 this;have hn:=hb.nodup;rw [List.nodup_iff_pairwise_ne,List.pairwise_iff_getElem] at hn;rcases Nat.lt_trichotomy a c with h | h | h
  ·exact absurd (e1.trans e3.symm) (hn a c ha1 (by omega) h)
  ·omega
  ·exact absurd (e3.trans e1.symm) (hn c a (by omega) ha1 h)
 ·have:=ha.apart p hp
  rw [Bool.and_eq_false_iff] at this ⊢;rcases this with h | h
  ·refine .inl ?_
   rw [<- Bool.not_eq_true,hbit,h];decide
  ·refine .inr ?_
   rw [<- Bool.not_eq_true,hbit,h];decide
 ·obtain ⟨_,h2,_,h4,h5⟩:=hmem b hb1
  have h6:=((Ri h4).1 h5).2.2 p hp e.symm
  have h7:Aa s p.1=true:=by
   have:=ha.before p hp;rw [e] at h2;rw [h2] at this;simpa using this
  refine ⟨(hbit _).2 h7,fun a ha1 e2=>?_⟩;have h8:=h6 l[a] (by rw [<- e2];exact (hmem a ha1).2.2.2.1);obtain ⟨c,hc,e3⟩:=List.mem_take_iff_getElem.1 h8;have hn:=hb.nodup;rw [List.nodup_iff_pairwise_ne,List.pairwise_iff_getElem] at hn;rcases Nat.lt_trichotomy a c with h | h | h
  ·exact absurd e3.symm (hn a c ha1 (by omega) h)
  ·omega
  ·exact absurd e3 (hn c a (by omega) ha1 h)
 ·apply Nat.eq_of_testBit_eq
  intro i;apply Bool.eq_iff_iff.2
  by_cases hi:i<=62
  ·rw [<- Ht (s:=sV l) hi,<- Ht (s:=s) hi,Cg fun v hv=>by have:=hrng v hv;omega]
   exact hbit _
  ·rw [mB]
   constructor
   ·rintro ⟨v,hv,e⟩
    have:=hrng v hv;omega
   ·intro h
    have:=Nat.testBit_lt_two_pow (Nat.lt_of_lt_of_le hs (Nat.pow_le_pow_right (n:=2) (by decide) (show x.ords.length<=i by omega)));rw [this] at h;cases h
structure LB where
 kind:Int
 vis:List (Int × Bool)
 place:Int
 time:Int
 driven:Int
 miles:Int
 load:List Int
 dn:Nat
 op:Nat
def Bn (t:TV) (l:LB):LB:={ l with time:=l.time+t.rest,driven:=0 }
def WL (t:TV) (l:LB):List LB:=[l,Bn t l]
def kB (x:IV) (s:Nat):Bool:=(MS s).all fun i=>!oO x i
def bo (s:Nat) (p:Int × Int):Bool:=Aa s p.1 && Aa s p.2
def lB (s:Nat) (p:Int × Int):Bool:=Aa s p.2 && !Aa s p.1
def PB (x:IV) (s:Nat):Bool:=!(x.apart.any (bo s)) && !(x.before.any (lB s))
def oK (x:IV) (l:List Int):Nat:=l.foldl (fun acc i=>if PN x i then acc ||| 1 <<< i.toNat else acc) 0
def open0 (x:IV) (s:Nat):Nat:=oK x (MS s)
def aS (x:IV) (t:TV) (s:Nat):Bool:=(MS s).all fun i=>AB t (Sf x i)
def lb0 (x:IV) (t:TV) (k:Int) (s:Nat):LB:=⟨k,[],t.frm,t.opn,0,0,lO x s,0,open0 x s⟩
def SL (x:IV) (t:TV) (k:Int) (s:Nat):List LB:=if kB x s && PB x s && aS x t s && fL (lO x s) t.cap then WL t (lb0 x t k s) else []
def AL (here:Nat) (o:Int) (p:Int × Int):Bool:=(p.1 == o && Aa here p.2) || (p.2 == o && Aa here p.1)
def be (dn op:Nat) (o:Int) (p:Int × Int):Bool:=p.2 == o && (!Aa dn p.1 || Aa op p.1)
def Bb (x:IV) (t:TV) (dn op:Nat) (v:Int × Bool):Bool:=oO x v.1 || !AB t (Sf x v.1) || (v.2 && !Aa op v.1) || (!v.2 && Aa dn v.1)
def Rb (x:IV) (t:TV) (dn op:Nat) (v:Int × Bool):Bool:=!Bb x t dn op v && !(x.apart.any (AL (dn ||| op) v.1)) && (Aa dn v.1 || !(x.before.any (be dn op v.1)))
def clrN (s o:Nat):Nat:=s ^^^ (s &&& 1 <<< o)
def dH (x:IV) (i:Int):Bool:=match OA x i with
 |some o=>decide (0<=o.drop.place)
 |none=>false
def opS (x:IV) (op:Nat) (v:Int × Bool):Nat:=if v.2 then clrN op v.1.toNat else if dH x v.1 then op ||| 1 <<< v.1.toNat else op
def sb (x:IV) (t:TV) (l:LB) (v:Int × Bool) (s:St) (g m:Int):LB :=
 ⟨l.kind,l.vis ++ [v],s.place,DV s g,l.driven+g - l.time,l.miles+m,Ap x l.load v,l.dn ||| 1 <<< v.1.toNat,opS x l.op v⟩
def eL (x:IV) (t:TV) (l:LB) (v:Int × Bool):List LB:=match sO x v with
 |none=>[]
 |some s=>if !Rb x t l.dn l.op v then [] else
  if (gP x t.prof l.place s.place l.time).2.2≠0 then [] else if t.drive<l.driven+(gP x t.prof l.place s.place l.time).1 - l.time then [] else if s.cls<(gP x t.prof l.place s.place l.time).1 then [] else
  if dE s (gP x t.prof l.place s.place l.time).1≠0 then [] else if !fL (Ap x l.load v) t.cap then [] else
  WL t (sb x t l v s (gP x t.prof l.place s.place l.time).1 (gP x t.prof l.place s.place l.time).2.1)
def cL (x:IV) (t:TV) (l:LB):Option (Int × Int) :=
 if l.vis.length=0∨l.op≠0 then none else if (gP x t.prof l.place t.tgt l.time).2.2≠0 then none else
 if t.drive<l.driven+(gP x t.prof l.place t.tgt l.time).1 - l.time then none else if t.cls<(gP x t.prof l.place t.tgt l.time).1 then none else
 some ((gP x t.prof l.place t.tgt l.time).1,wV (sP x t l.kind l.vis (gP x t.prof l.place t.tgt l.time).1 (l.miles+(gP x t.prof l.place t.tgt l.time).2.1)))
def dB (a b:LB):Bool:=(a.kind == b.kind && a.place == b.place && a.dn == b.dn && a.op == b.op) && (decide (a.time<=b.time) && decide (a.driven<=b.driven) && decide (a.miles<=b.miles) && fL a.load b.load)
def KL (l:List LB) (n:LB):List LB:=if l.any (fun k=>dB k n) then l else l.filter (fun k=>!dB n k) ++ [n]
def Cr (x:IV) (t:TV) (q:List LB) (v:Int × Bool):List LB:=q.flatMap fun l=>eL x t l v
def li (x:IV) (t:TV) (st:List LB) (vs:List (Int × Bool)):List LB:=vs.foldl (Cr x t) st
def eS (x:IV) (t:TV) (out:List LB) (l:LB):List LB:=if (cL x t l).isSome then KL out l else out
def ES (x:IV) (t:TV) (st out:List LB) (vs:List (Int × Bool)):List LB:=(li x t st vs).foldl (eS x t) out
def endsL (x:IV) (t:TV) (st:List LB) (seqs:List (List (Int × Bool))):List LB:=seqs.foldl (ES x t st) []
structure Bj (x:IV) (t:TV) (k:Int) (l:LB):Prop where
 kind:l.kind=k
 time:t.opn<=l.time/\l.time<=20000
 driven:0<=l.driven/\l.driven<=4096
 miles:0<=l.miles/\l.miles<=10000*(l.vis.length:Int)
 load:LO x (100000+1000*(l.vis.length:Int)) l.load
 dn:l.dn<8
 op:l.op<8
theorem clr_lt {s o:Nat} (hs:s<8):clrN s o<8:=by
 unfold clrN;exact Nat.xor_lt_two_pow (n:=3) hs (Nat.lt_of_le_of_lt Nat.and_le_left hs)
theorem or1_lt {s o:Nat} (hs:s<8) (ho:o<3):s ||| 1 <<< o<8:=by
 refine Nat.or_lt_two_pow (n:=3) hs ?_;rw [Nat.one_shiftLeft];exact Nat.pow_lt_pow_right (by decide) ho
theorem opS_lt {x:IV} {s:Nat} {v:Int × Bool} (hs:s<8) (hv:v.1.toNat<3):opS x s v<8:=by
 unfold opS;split
 ·exact clr_lt hs
 ·split
  ·exact or1_lt hs hv
  ·exact hs
theorem rest_ok {x:IV} {t:TV} {k:Int} {l:LB} (ht:TO t) (h:Bj x t k l) (h2:l.time<=8192):∀ a ∈ WL t l,Bj x t k a/\a.vis=l.vis:=by
 have hr:=ht.rest;intro a ha;unfold WL at ha;rcases List.mem_cons.1 ha with rfl | ha
 ·exact ⟨h,rfl⟩
 ·rw [List.mem_singleton.1 ha]
  unfold Bn;exact ⟨⟨h.kind,by have:=h.time;simp only;omega,by simp only;omega,h.miles,h.load,h.dn,h.op⟩,rfl⟩
theorem mE {x:IV} {t:TV} {l a:LB} {v:Int × Bool}:a ∈ eL x t l v↔∃ s g m,sO x v=some s/\Rb x t l.dn l.op v=true/\gP x t.prof l.place s.place l.time=(g,m,0)/\l.driven+g - l.time<=t.drive/\max g s.opn<=s.cls/\fL (Ap x l.load v) t.cap=true/\a ∈ WL t (sb x t l v s g m):=by
 unfold eL;constructor
 ·intro h
  cases hs:sO x v with
  |none=>rw [hs] at h;simp at h
  |some s =>
   rw [hs] at h;simp only at h;split at h
   ·simp at h
   rename_i g1;split at h
   ·simp at h
   rename_i g2;split at h
   ·simp at h
   rename_i g3;split at h
   ·simp at h
   rename_i g4;split at h
   ·simp at h
   rename_i g5;split at h
   ·simp at h
   rename_i g6;refine ⟨s,(gP x t.prof l.place s.place l.time).1,(gP x t.prof l.place s.place l.time).2.1,rfl,by simpa using g1,?_,by omega,?_,by simpa using g6,h⟩
   ·have:(gP x t.prof l.place s.place l.time).2.2=0:=by omega
    rw [<- this]
   ·unfold dE at g5
    split at g5
    ·exact absurd (by decide) g5
    ·omega
 ·rintro ⟨s,g,m,hs,h1,h2,h3,h4,h5,h6⟩
  rw [hs];simp only;rw [h2,h1,h5];simp only;have e:dE s g=0:=by unfold dE;rw [if_neg (by omega)]
  rw [e,if_neg (by decide),if_neg (by decide),if_neg (by omega),if_neg (by omega),if_neg (by decide),if_neg (by decide)];exact h6
theorem ext_ok {x:IV} {t:TV} {k:Int} {l:LB} {v:Int × Bool} (hok:IK x) (ht:TO t) (h:Bj x t k l) (h0:0<=v.1/\v.1<(x.ords.length:Int)):∀ a ∈ eL x t l v,Bj x t k a/\a.vis=l.vis ++ [v]:=by
 intro a ha;obtain ⟨s,g,m,hs,_,hg,hd,hm,_,ha⟩:=mE.1 ha;have hso:=Sl (so hok hs).1;have htm:=h.time;have hop:=ht.opn;have hge:=goP_ge hok (prof:=t.prof) (frm:=l.place) (tgt:=s.place) (t:=l.time) (by rw [hg]);have hgb:=GP hok t.prof l.place s.place (t:=l.time) (by omega);rw [hg] at hge hgb;simp only at hge hgb;have hdr:=h.driven;have htd:=ht.drive;have hmi:=h.miles
 have hv3:v.1.toNat<3:=by have:=hok.no;omega
 have hdv:DV s g=max g s.opn+s.serv:=by unfold DV;rw [if_neg (by omega)]
 have hl:((l.vis ++ [v]).length:Int)=(l.vis.length:Int)+1:=by simp
 obtain ⟨h1,h2⟩:=rest_ok ht (l:=sb x t l v s g m) (k:=k) (x:=x) (by
  unfold sb;refine ⟨h.kind,by simp only;omega,by simp only;omega,by simp only;omega,?_,or1_lt h.dn hv3,opS_lt h.op hv3⟩;simp only;exact (loadV_ok hok h.load h0.1 h0.2).mono (by omega)) (by unfold sb;simp only;omega) a ha
 exact ⟨h1,h2⟩
theorem load0_ok {x:IV} (hok:IK x) {s:Nat} (hs:s<2 ^ x.ords.length):LO x 63000 (lO x s):=by
 have h:=Co hok (s:=s) (fun i hi=>(Mt hs hi).2) [] (fun v hv=>absurd hv (by simp));exact h.mono (by simp)
theorem OK (x:IV) (l:List Int) (i:Int):oK x (l ++ [i])=if PN x i then oK x l ||| 1 <<< i.toNat else oK x l:=by unfold oK;rw [List.foldl_append];rfl
theorem openK_lt {x:IV}:∀ (l:List Int),(∀ i ∈ l,i.toNat<3)->oK x l<8:=by
 intro l;generalize hn:l.length=n
 induction n generalizing l with
 |zero =>
  intro _;have:l=[]:=List.length_eq_zero_iff.1 hn;subst this;exact (show (0:Nat)<8 by decide)
 |succ n ih =>
  intro h;obtain ⟨ds,b,rfl⟩:∃ ds b,l=ds ++ [b]:=⟨l.dropLast,l.getLast (by intro e;rw [e] at hn;cases hn),(List.dropLast_concat_getLast _).symm⟩
  have hd:ds.length=n:=by rw [List.length_append] at hn;simpa using hn
  have h1:=ih ds hd fun i hi=>h i (by simp [hi]);have h2:=h b (by simp);rw [OK];split
  ·exact or1_lt h1 h2
  ·exact h1
theorem lb0_ok {x:IV} (hok:IK x) {s:Nat} (hs:s<2 ^ x.ords.length) {t:TV} (ht:TO t) (k:Int):Bj x t k (lb0 x t k s):=by
 have h1:=ht.opn;have h2:=ht.cls;unfold lb0;refine ⟨rfl,by simp only;omega,by simp only;omega,by simp,(load0_ok hok hs).mono (by simp),(show (0:Nat)<8 by decide),openK_lt _ fun i hi=>?_⟩;have:=Mt hs hi;have:=hok.no;omega
theorem start_ok {x:IV} (hok:IK x) {s:Nat} (hs:s<2 ^ x.ords.length) {t:TV} (ht:TO t) (k:Int):∀ a ∈ SL x t k s,Bj x t k a/\a.vis=[]:=by
 intro a ha;unfold SL at ha;split at ha
 ·have h1:=ht.opn
  have h2:=ht.cls;exact rest_ok ht (lb0_ok hok hs ht k) (by unfold lb0;simp only;omega) a ha
 ·simp at ha
theorem adv_ok {x:IV} {t:TV} {k:Int} {v:Int × Bool} (hok:IK x) (ht:TO t) (h0:0<=v.1/\v.1<(x.ords.length:Int)) {q:List LB} {vs:List (Int × Bool)} (h:∀ a ∈ q,Bj x t k a/\a.vis=vs):∀ a ∈ Cr x t q v,Bj x t k a/\a.vis=vs ++ [v]:=by
 intro a ha;unfold Cr at ha;obtain ⟨l,hl,ha⟩:=List.mem_flatMap.1 ha;obtain ⟨h1,h2⟩:=h l hl;have:=ext_ok hok ht h1 h0 a ha;rw [h2] at this;exact this
theorem lI (x:IV) (t:TV) (st:List LB) (vs:List (Int × Bool)) (v:Int × Bool):li x t st (vs ++ [v])=Cr x t (li x t st vs) v:=by unfold li;rw [List.foldl_append];rfl
theorem Lk {x:IV} {t:TV} {k:Int} (hok:IK x) (ht:TO t) {st:List LB} (h:∀ a ∈ st,Bj x t k a/\a.vis=[]):∀ (vs:List (Int × Bool)),(∀ v ∈ vs,0<=v.1/\v.1<(x.ords.length:Int))->∀ a ∈ li x t st vs,Bj x t k a/\a.vis=vs:=by
 intro l;generalize hn:l.length=n
 induction n generalizing l with
 |zero =>
  intro _;have:l=[]:=List.length_eq_zero_iff.1 hn;subst this;exact h
 |succ n ih =>
  intro hr;obtain ⟨ds,b,rfl⟩:∃ ds b,l=ds ++ [b]:=⟨l.dropLast,l.getLast (by intro e;rw [e] at hn;cases hn),(List.dropLast_concat_getLast _).symm⟩
  have hd:ds.length=n:=by rw [List.length_append] at hn;simpa using hn
  rw [lI];exact adv_ok hok ht (hr b (by simp)) (ih ds hd fun v hv=>hr v (by simp [hv]))
theorem ext_len (x:IV) (t:TV) (l:LB) (v:Int × Bool):(eL x t l v).length<=2:=by
 unfold eL;split
 ·simp
 ·repeat' split
  all_goals first | simp | (unfold WL;simp)
theorem adv_len (x:IV) (t:TV) (v:Int × Bool):∀ q:List LB,(Cr x t q v).length<=2*q.length
 |[]=>by simp [Cr]
 |l :: q=>by
  have h1:=ext_len x t l v;have h2:=adv_len x t v q;unfold Cr at h2 ⊢;rw [List.flatMap_cons,List.length_append,List.length_cons];omega
theorem lines_len (x:IV) (t:TV) (st:List LB):∀ vs:List (Int × Bool),(li x t st vs).length<=st.length*2 ^ vs.length:=by
 intro l;generalize hn:l.length=n
 induction n generalizing l with
 |zero =>
  have:l=[]:=List.length_eq_zero_iff.1 hn;subst this;simp [li]
 |succ n ih =>
  obtain ⟨ds,b,rfl⟩:∃ ds b,l=ds ++ [b]:=⟨l.dropLast,l.getLast (by intro e;rw [e] at hn;cases hn),(List.dropLast_concat_getLast _).symm⟩
  have hd:ds.length=n:=by rw [List.length_append] at hn;simpa using hn
  rw [lI];have h1:=adv_len x t b (li x t st ds);have h2:=ih ds hd;rw [Nat.pow_succ,<- Nat.mul_assoc];omega
theorem keepLb_len (l:List LB) (n:LB):(KL l n).length<=l.length+1:=by
 unfold KL;split
 ·omega
 ·rw [List.length_append]
  have:=List.length_filter_le (fun k=>!dB n k) l;simp;omega
theorem keepLb_mem {l:List LB} {n a:LB} (h:a ∈ KL l n):a ∈ l∨a=n:=by
 unfold KL at h;split at h
 ·exact .inl h
 ·rcases List.mem_append.1 h with h | h
  ·exact .inl (List.mem_filter.1 h).1
  ·exact .inr (List.mem_singleton.1 h)
end Go.Proofs.YtjcekdiocliddaaGreatDoor

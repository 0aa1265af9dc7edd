/- Labels are schedules; the least price of labels is that of the best route. Plain. -/
import Derived.Test.YtjcekdiocliddaaGreatDoorG84
import Derived.Test.YtjcekdiocliddaaGreatDoorG83
import Derived.Test.YtjcekdiocliddaaGreatDoorG87
namespace Go.Proofs.YtjcekdiocliddaaGreatDoor
open Num Txt Pf Tk
set_option linter.unusedVariables false
theorem clr_bit (s o i:Nat):(clrN s o).testBit i=(s.testBit i && !decide (o=i)):=by
 unfold clrN;rw [Nat.testBit_xor,Nat.testBit_and,Nat.one_shiftLeft,Nat.testBit_two_pow];cases s.testBit i <;> cases decide (o=i) <;> rfl
theorem or_bit1 (s o i:Nat):(s ||| 1 <<< o).testBit i=(s.testBit i || decide (o=i)):=by rw [Nat.testBit_or,Nat.one_shiftLeft,Nat.testBit_two_pow]
theorem openK_bit {x:IV} {i:Nat}:∀ (l:List Int),(oK x l).testBit i=true↔∃ j ∈ l,j.toNat=i/\PN x j=true:=by
 intro l;generalize hn:l.length=n
 induction n generalizing l with
 |zero =>
  have:l=[]:=List.length_eq_zero_iff.1 hn;subst this;simp [oK]
 |succ n ih =>
  obtain ⟨ds,b,rfl⟩:∃ ds b,l=ds ++ [b]:=⟨l.dropLast,l.getLast (by intro e;rw [e] at hn;cases hn),(List.dropLast_concat_getLast _).symm⟩
  have hd:ds.length=n:=by rw [List.length_append] at hn;simpa using hn
  have h1:=ih ds hd;rw [OK];by_cases hp:PN x b=true
  ·rw [if_pos hp,or_bit1,Bool.or_eq_true,h1,decide_eq_true_iff]
   constructor
   ·rintro (⟨j,hj,h⟩ | h)
    ·exact ⟨j,by simp [hj],h⟩
    ·exact ⟨b,by simp,h,hp⟩
   ·rintro ⟨j,hj,h,h2⟩
    rcases List.mem_append.1 hj with hj | hj
    ·exact .inl ⟨j,hj,h,h2⟩
    ·rw [List.mem_singleton.1 hj] at h
     exact .inr h
  ·rw [if_neg hp,h1]
   constructor
   ·rintro ⟨j,hj,h⟩
    exact ⟨j,by simp [hj],h⟩
   ·rintro ⟨j,hj,h,h2⟩
    rcases List.mem_append.1 hj with hj | hj
    ·exact ⟨j,hj,h,h2⟩
    ·rw [List.mem_singleton.1 hj] at h2
     exact absurd h2 hp
theorem ord_some {x:IV} {i:Int} (h0:0<=i) (h1:i<(x.ords.length:Int)):∃ o,OA x i=some o:=by
 unfold OA;rw [if_neg (by omega)];exact ⟨_,List.getElem?_eq_getElem (show i.toNat<x.ords.length by omega)⟩
theorem pick_neg {x:IV} {i:Int} (h0:0<=i) (h1:i<(x.ords.length:Int)):PN x i=true↔(i,false) ∉ vO x i:=by
 obtain ⟨o,ho⟩:=ord_some h0 h1;rw [mV];unfold PN;rw [ho];simp
theorem drop_has {x:IV} {i:Int}:dH x i=true↔(i,true) ∈ vO x i:=by
 rw [mV];unfold dH
 cases OA x i with
 |none=>simp
 |some o=>simp
def opV (x:IV) (s:Nat) (vs:List (Int × Bool)):Nat:=vs.foldl (opS x) (open0 x s)
theorem opV_snoc (x:IV) (s:Nat) (vs:List (Int × Bool)) (v:Int × Bool):opV x s (vs ++ [v])=opS x (opV x s vs) v:=by unfold opV;rw [List.foldl_append];rfl
theorem bit_lt {x:IV} {s i:Nat} (hs:s<2 ^ x.ords.length) (h:s.testBit i=true):i<x.ords.length:=by
 rcases Nat.lt_or_ge i x.ords.length with h2 | h2
 ·exact h2
 ·have:=Nat.testBit_lt_two_pow (Nat.lt_of_lt_of_le hs (Nat.pow_le_pow_right (n:=2) (by decide) h2))
  rw [this] at h;cases h
theorem OV {x:IV} (hok:IK x) {s:Nat} (hs:s<2 ^ x.ords.length) {i:Nat}:∀ (l:List (Int × Bool)),BT x s l->((opV x s l).testBit i=true↔s.testBit i=true/\((i:Int),true) ∈ vO x i/\((i:Int),true) ∉ l/\(((i:Int),false) ∈ vO x i->((i:Int),false) ∈ l)):=by
 have h3:=hok.no;intro l;generalize hn:l.length=n
 induction n generalizing l with
 |zero =>
  intro _;have:l=[]:=List.length_eq_zero_iff.1 hn;subst this;show (oK x (MS s)).testBit i=true↔_
  rw [openK_bit];constructor
  ·rintro ⟨j,hj,h1,h2⟩
   have hr:=Mt hs hj;obtain ⟨o,rfl⟩:∃ o:Nat,j=(o:Int):=⟨j.toNat,by omega⟩
   rw [Int.toNat_natCast] at h1;subst h1;rw [mS,Ht (by omega)] at hj;have h4:=(pick_neg hr.1 hr.2).1 h2;refine ⟨hj,?_,by simp,fun h=>absurd h h4⟩;obtain ⟨v,hv⟩:=vS hok hr.1 hr.2;have:=mf hv;obtain ⟨v1,v2⟩:=v;simp only at this;subst this
   cases v2 with
   |true=>exact hv
   |false=>exact absurd hv h4
  ·rintro ⟨h1,h2,_,h4⟩
   have:=bit_lt hs h1;refine ⟨(i:Int),by rw [mS,Ht (by omega)];exact h1,by simp,(pick_neg (by omega) (by omega)).2 fun h=>?_⟩;have:=h4 h;simp at this
 |succ n ih =>
  intro hb;obtain ⟨ds,v,rfl⟩:∃ ds b,l=ds ++ [b]:=⟨l.dropLast,l.getLast (by intro e;rw [e] at hn;cases hn),(List.dropLast_concat_getLast _).symm⟩
  have hd:ds.length=n:=by rw [List.length_append] at hn;simpa using hn
  have hbd:BT x s ds:=by have:=hb.take ds.length;rwa [List.take_left] at this
  have h1:=ih ds hd hbd
  obtain ⟨hr,hsv,_,hvv,hrd⟩:=mn.1 (show v ∈ NV x s ds by
   have:=hb ds.length (by simp);rw [List.take_left,List.getElem_append_right (Nat.le_refl _)] at this;simpa using this)
  obtain ⟨hni,hpre,_⟩:=(Ri hvv).1 hrd;obtain ⟨v1,v2⟩:=v;simp only at hr hsv hvv hni hpre;obtain ⟨o,rfl⟩:∃ o:Nat,v1=(o:Int):=⟨v1.toNat,by omega⟩
  rw [Ht (by omega)] at hsv;rw [opV_snoc];unfold opS;simp only [Int.toNat_natCast]
  have hne:∀ (b c:Bool),o≠i->(((i:Int),b) ∈ ds ++ [((o:Int),c)]↔((i:Int),b) ∈ ds):=fun b c h=>by
   rw [List.mem_append,List.mem_singleton];constructor
   ·rintro (h2 | h2)
    ·exact h2
    ·injection h2 with h2 _;omega
   ·exact .inl
  cases v2 with
  |true =>
   rw [if_pos rfl,clr_bit,Bool.and_eq_true,h1];by_cases he:o=i
   ·subst he
    simp
   ·rw [hne _ _ he,hne _ _ he,decide_eq_false he]
    simp
  |false =>
   rw [if_neg (by decide)];by_cases hdh:dH x (o:Int)=true
   ·rw [if_pos hdh,or_bit1,Bool.or_eq_true,h1,decide_eq_true_iff]
    by_cases he:o=i
    ·subst he
     have hnt:((o:Int),true) ∉ ds:=fun h=>by
      obtain ⟨j,hj,e⟩:=List.getElem_of_mem h;obtain ⟨_,_,_,hv3,hr3⟩:=mn.1 (hbd j hj);rw [e] at hv3 hr3;have:=((Ri hv3).1 hr3).2.1 rfl hvv;exact hni (List.mem_of_mem_take this)
     refine ⟨fun _=>⟨hsv,drop_has.1 hdh,?_,fun _=>by simp⟩,fun _=>.inr rfl⟩;rw [List.mem_append,List.mem_singleton];rintro (h2 | h2)
     ·exact hnt h2
     ·injection h2 with _ h2;cases h2
    ·rw [hne _ _ he,hne _ _ he]
     constructor
     ·rintro (h2 | h2)
      ·exact h2
      ·exact absurd h2 he
     ·exact .inl
   ·rw [if_neg hdh,h1]
    by_cases he:o=i
    ·subst he
     have:((o:Int),true) ∉ vO x o:=fun h=>hdh (drop_has.2 h);constructor
     ·rintro ⟨_,h2,_⟩;exact absurd h2 this
     ·rintro ⟨_,h2,_⟩;exact absurd h2 this
    ·rw [hne _ _ he,hne _ _ he]
theorem hasN_nat {s:Nat} (hs:s<8) {i:Int}:Aa s i=true↔0<=i/\s.testBit i.toNat=true:=by
 by_cases hi:0<=i
 ·by_cases h62:i<=62
  ·obtain ⟨o,rfl⟩:∃ o:Nat,i=(o:Int):=⟨i.toNat,by omega⟩
   rw [Ht (by omega),Int.toNat_natCast];exact ⟨fun h=>⟨by omega,h⟩,fun h=>h.2⟩
  ·constructor
   ·intro h
    unfold Aa at h;exact absurd (of_decide_eq_true h).2.1 h62
   ·rintro ⟨_,h⟩
    have:=Nat.testBit_lt_two_pow (Nat.lt_of_lt_of_le (show s<2 ^ 3 from hs) (Nat.pow_le_pow_right (n:=2) (by decide) (show 3<=i.toNat by omega)));rw [this] at h;cases h
 ·constructor
  ·intro h
   unfold Aa at h;exact absurd (of_decide_eq_true h).1 hi
  ·rintro ⟨h,_⟩;exact absurd h hi
theorem opV_lt {x:IV} (hok:IK x) {s:Nat} (hs:s<2 ^ x.ords.length):∀ (l:List (Int × Bool)),(∀ v ∈ l,0<=v.1/\v.1<(x.ords.length:Int))->opV x s l<8:=by
 intro l;generalize hn:l.length=n
 induction n generalizing l with
 |zero =>
  intro _;have:l=[]:=List.length_eq_zero_iff.1 hn;subst this;refine openK_lt _ fun i hi=>?_;have:=Mt hs hi;have:=hok.no;omega
 |succ n ih =>
  intro h;obtain ⟨ds,b,rfl⟩:∃ ds b,l=ds ++ [b]:=⟨l.dropLast,l.getLast (by intro e;rw [e] at hn;cases hn),(List.dropLast_concat_getLast _).symm⟩
  have hd:ds.length=n:=by rw [List.length_append] at hn;simpa using hn
  have h2:=h b (by simp);have:=hok.no;rw [opV_snoc];exact opS_lt (ih ds hd fun i hi=>h i (by simp [hi])) (by omega)
theorem BT.rng {x:IV} {s:Nat} {l:List (Int × Bool)} (h:BT x s l):∀ v ∈ l,0<=v.1/\v.1<(x.ords.length:Int):=fun v hv=>by
 obtain ⟨k,hk,rfl⟩:=List.getElem_of_mem hv;exact (mn.1 (h k hk)).1
theorem BT.setb {x:IV} {s:Nat} {l:List (Int × Bool)} (h:BT x s l) (h3:x.ords.length<=62) {i:Nat} (hi:(sV l).testBit i=true):s.testBit i=true:=by
 obtain ⟨v,hv,e⟩:=mB.1 hi;obtain ⟨k,hk,rfl⟩:=List.getElem_of_mem hv;obtain ⟨hr,hs,_⟩:=mn.1 (h k hk);obtain ⟨o,ho⟩:∃ o:Nat,l[k].1=(o:Int):=⟨l[k].1.toNat,by omega⟩
 rw [ho] at hs e hr;rw [Ht (by omega)] at hs;rw [Int.toNat_natCast] at e;rw [<- e];exact hs
theorem ready_lb {x:IV} (hok:IK x) {s:Nat} (hs:s<2 ^ x.ords.length) (ha:AP x s) {t:TV} (hab:aS x t s=true) {l:List (Int × Bool)} (hb:BT x s l) {v:Int × Bool} (hv:v ∈ NV x s l):Rb x t (sV l) (opV x s l) v=true:=by
 have h3:=hok.no;have h62:x.ords.length<=62:=by omega
 have hset:sV l<8:=setV_lt fun u hu=>by have:=hb.rng u hu;omega
 have hop:opV x s l<8:=opV_lt hok hs l hb.rng;have hs8:s<8:=Nat.lt_of_lt_of_le hs (Nat.pow_le_pow_right (n:=2) (by decide) h3);obtain ⟨hr,hsv,hoff,hvv,hrd⟩:=mn.1 hv;obtain ⟨hni,hpre,hbef⟩:=(Ri hvv).1 hrd;obtain ⟨v1,v2⟩:=v;simp only at hr hsv hoff hvv hni hpre hbef;obtain ⟨o,rfl⟩:∃ o:Nat,v1=(o:Int):=⟨v1.toNat,by omega⟩
 have hsb:s.testBit o=true:=by rw [Ht (by omega)] at hsv;exact hsv
 have hable:AB t (Sf x (o:Int))=true:=by
  unfold aS at hab;rw [List.all_eq_true] at hab;exact hab _ (mS.2 hsv)
 have hnt:v2=false->((o:Int),true) ∉ l:=fun e h=>by
  subst e;obtain ⟨j,hj,e⟩:=List.getElem_of_mem h;obtain ⟨_,_,_,hv3,hr3⟩:=mn.1 (hb j hj);rw [e] at hv3 hr3;exact hni (List.mem_of_mem_take (((Ri hv3).1 hr3).2.1 rfl hvv))
 unfold Rb;rw [Bool.and_eq_true,Bool.and_eq_true,Bool.not_eq_true',Bool.not_eq_true'];refine ⟨⟨?_,?_⟩,?_⟩
 ·unfold Bb
  simp only;rw [hoff,hable]
  cases v2 with
  |true =>
   have:Aa (opV x s l) (o:Int)=true:=by
    rw [Ht (by omega),OV hok hs l hb];exact ⟨hsb,hvv,hni,fun h=>hpre rfl h⟩
   rw [this];rfl
  |false =>
   have:Aa (sV l) (o:Int)=false:=by
    rw [<- Bool.not_eq_true,Ht (by omega),mB];rintro ⟨u,hu,e⟩;have hur:=hb.rng u hu;obtain ⟨u1,u2⟩:=u;simp only at e hur;have:u1=(o:Int):=by omega
    subst this
    cases u2 with
    |true=>exact hnt rfl hu
    |false=>exact hni hu
   rw [this];rfl
 ·rw [<- Bool.not_eq_true,List.any_eq_true]
  rintro ⟨p,hp,hbad⟩;have hap:=ha.apart p hp
  have key:∀ i:Int,Aa (sV l ||| opV x s l) i=true->Aa s i=true:=fun i hi=>by
   obtain ⟨h0,hi⟩:=(hasN_nat (Nat.or_lt_two_pow (n:=3) hset hop)).1 hi;rw [Nat.testBit_or,Bool.or_eq_true] at hi;refine (hasN_nat hs8).2 ⟨h0,?_⟩;rcases hi with hi | hi
   ·exact hb.setb h62 hi
   ·exact ((OV hok hs l hb).1 hi).1
  unfold AL at hbad;simp only at hbad;rw [Bool.or_eq_true,Bool.and_eq_true,Bool.and_eq_true,beq_iff_eq,beq_iff_eq] at hbad;rcases hbad with ⟨h1,h2⟩ | ⟨h1,h2⟩
  ·rw [h1,hsv,key _ h2] at hap;cases hap
  ·rw [h1,hsv,key _ h2] at hap;cases hap
 ·rw [Bool.or_eq_true,Bool.not_eq_true']
  refine .inr ?_;rw [<- Bool.not_eq_true,List.any_eq_true];rintro ⟨p,hp,hbad⟩;unfold be at hbad;simp only at hbad;rw [Bool.and_eq_true,beq_iff_eq] at hbad;obtain ⟨h1,h2⟩:=hbad;have hall:=hbef p hp h1
  have hp1:Aa s p.1=true:=by
   have:=ha.before p hp;rw [h1,hsv] at this;simpa using this
  have hpr:=Mt hs (mS.2 hp1);obtain ⟨q,hq⟩:∃ q:Nat,p.1=(q:Int):=⟨p.1.toNat,by omega⟩
  rw [hq] at h2 hall hpr;obtain ⟨u,hu⟩:=vS hok hpr.1 hpr.2
  have hd:Aa (sV l) (q:Int)=true:=by
   rw [Ht (by omega),mB];exact ⟨u,hall u hu,by rw [mf hu];exact Int.toNat_natCast q⟩
  have ho2:Aa (opV x s l) (q:Int)=false:=by
   rw [<- Bool.not_eq_true,Ht (by omega),OV hok hs l hb];rintro ⟨_,h4,h5,_⟩;exact h5 (hall _ h4)
  rw [hd,ho2] at h2;cases h2
theorem nextP_some {p:Tr} {l:LV} {k:Nat} {b:Bool} {s:St} (hs:p.stops[k]? = some s) {g m:Int} (hg:gP p.x p.t.prof (pP p k) s.place (l.ready+if b then p.t.rest else 0)=(g,m,0))
  (hm:max g s.opn<=s.cls) (hd:(if b then 0 else l.since)+g - (l.ready+if b then p.t.rest else 0)<=p.t.drive) :
  ∃ l',nP p l k b=(some l',0)/\l'.ready=max g s.opn+s.serv/\l'.since=(if b then 0 else l.since)+g - (l.ready+if b then p.t.rest else 0)/\l'.sh.miles=l.sh.miles+m:=by
 obtain ⟨hmi,_⟩:=SD l.sh k b (l.ready+if b then p.t.rest else 0);unfold nP;simp only;rw [hs];simp only;rw [hg];simp only;rw [if_neg (by decide),if_neg (by omega),if_neg (by omega)];exact ⟨_,rfl,rfl,rfl,by simp only;rw [hmi]⟩
theorem nextP_fin {p:Tr} {l:LV} {k:Nat} {b:Bool} (hs:p.stops[k]? = none) {g m:Int} (hg:gP p.x p.t.prof (pP p k) p.t.tgt (l.ready+if b then p.t.rest else 0)=(g,m,0))
  (hm:g<=p.t.cls) (hd:(if b then 0 else l.since)+g - (l.ready+if b then p.t.rest else 0)<=p.t.drive) :
  ∃ l',nP p l k b=(some l',0)/\l'.sh.fin=g/\l'.sh.miles=l.sh.miles+m:=by
 obtain ⟨hmi,_⟩:=SD l.sh k b (l.ready+if b then p.t.rest else 0);unfold nP;simp only;rw [hs];simp only;rw [hg];simp only;rw [if_neg (by decide),if_neg (by omega),if_neg (by omega)];exact ⟨_,rfl,rfl,by simp only;rw [hmi]⟩
theorem run_app {p:Tr} {cs:List Bool} {b:Bool} {l l':LV} {z z2:Int} (h:rP p cs=(some l,z)) (hn:nP p l cs.length b=(some l',z2)):rP p (cs ++ [b])=(some l',0):=by
 unfold rP at h ⊢;rw [Rc,h];simp only;rw [Nat.zero_add,hn]
def Lf (x:IV) (p:Tr) (s:Nat) (k:Int) (vs:List (Int × Bool)) (l:LV) (b:Bool):LB:=⟨k,vs,pP p vs.length,l.ready+(if b then p.t.rest else 0),if b then 0 else l.since,l.sh.miles,loadAt x s vs,sV vs,opV x s vs⟩
theorem Bo (x:IV) (p:Tr) (s:Nat) (k:Int) (vs:List (Int × Bool)) (l:LV):Bn p.t (Lf x p s k vs l false)=Lf x p s k vs l true:=by
 unfold Bn Lf;simp
theorem mw {t:TV} {l a:LB}:a ∈ WL t l↔a=l∨a=Bn t l:=by
 unfold WL;simp
theorem PP {p:Tr} {k:Nat} {s:St} (h:p.stops[k]? = some s):pP p (k+1)=s.place:=by
 unfold pP;rw [if_neg (by omega),show k+1 - 1=k from rfl,h]
theorem lines_iff {x:IV} (hok:IK x) {s:Nat} (hs:s<2 ^ x.ords.length) (ha:AP x s) {k:Int} {vs:List (Int × Bool)} {p:Tr} (hp:PlanIs x ⟨k,0,[],vs⟩ p) (hb:BT x s vs) :
  ∀ (j:Nat),j<=vs.length->∀ a,a ∈ li x p.t (SL x p.t k s) (vs.take j)↔(aS x p.t s=true/\∀ i,i<=j->fL (loadAt x s (vs.take i)) p.t.cap=true)/\∃ cs l z b,cs.length=j/\rP p cs=(some l,z)/\a=Lf x p s k (vs.take j) l b
 |0,_,a=>by
  have hkn:kB x s=true:=by
   unfold kB;rw [List.all_eq_true];intro i hi;rw [ha.off i hi];rfl
  have hpr:PB x s=true:=by
   unfold PB;rw [Bool.and_eq_true,Bool.not_eq_true',Bool.not_eq_true',List.any_eq_false,List.any_eq_false];exact ⟨fun q hq=>by unfold bo;rw [ha.apart q hq];decide,fun q hq=>by unfold lB;rw [ha.before q hq];decide⟩
  have ht:=(hp.ok hok).t.opn;have hst:p.r.start=0:=by rw [hp.r]
  have h0:Lf x p s k [] (L0 p) false=lb0 x p.t k s:=by
   unfold Lf lb0 L0;rw [hst];have:max p.t.opn 0=p.t.opn:=by omega
   simp only [this];show LB.mk k [] (pP p 0) (p.t.opn+0) 0 0 (lO x s) 0 (open0 x s)=_
   rw [Int.add_zero];rfl
  have h1:Lf x p s k [] (L0 p) true=Bn p.t (lb0 x p.t k s):=by rw [<- h0,Bo]
  rw [List.take_zero];show a ∈ SL x p.t k s↔_
  unfold SL;rw [hkn,hpr];constructor
  ·intro h
   split at h
   ·rename_i hc
    simp only [Bool.true_and,Bool.and_eq_true] at hc;refine ⟨⟨hc.1,fun i hi=>?_⟩,?_⟩
    ·have:i=0:=by omega
     subst this;rw [List.take_zero];exact hc.2
    ·rcases mw.1 h with rfl | rfl
     ·exact ⟨[],L0 p,0,false,rfl,rfl,h0.symm⟩
     ·exact ⟨[],L0 p,0,true,rfl,rfl,h1.symm⟩
   ·simp at h
  ·rintro ⟨⟨hab,hf⟩,cs,l,z,b,hcs,hr,rfl⟩
   have:=List.length_eq_zero_iff.1 hcs;subst this
   have hl:l=L0 p:=by
    unfold rP at hr;rw [rF] at hr;injection hr with hr _
    injection hr with hr
    exact hr.symm
   subst hl;have hf0:fL (lO x s) p.t.cap=true:=by have:=hf 0 (Nat.le_refl _);rwa [List.take_zero] at this
   rw [hab,hf0,if_pos (by decide)]
   cases b with
   |false=>rw [h0];exact mw.2 (.inl rfl)
   |true=>rw [h1];exact mw.2 (.inr rfl)
 |j+1,hj,a=>by
  have hjl:j<vs.length:=by omega
  have htr:=hp.ok hok;have hpx:=hp.x;have hlen:=hp.len;simp only at hlen;have htk:vs.take (j+1)=vs.take j ++ [vs[j]]:=Ts hjl;obtain ⟨st,hst⟩:∃ st,p.stops[j]? = some st:=⟨_,List.getElem?_eq_getElem (show j<p.stops.length by omega)⟩
  have hsto:sO x vs[j]=some st:=by
   have:=Ak x vs p.stops j hjl (by omega) hp.stops;rw [this];rw [List.getElem?_eq_getElem (show j<p.stops.length by omega)] at hst;exact hst
  have hplace:pP p (vs.take j).length=pP p j:=by rw [List.length_take,Nat.min_eq_left (by omega)]
  have hnx:vs[j] ∈ NV x s (vs.take j):=hb j hjl;have hbt:=hb.take j;have ih:=lines_iff hok hs ha hp hb j (by omega);have hsteps:∀ (l l2:LV) (b:Bool) (g m:Int),l2.ready=max g st.opn+st.serv->l2.since=(if b then 0 else l.since)+g - (l.ready+if b then p.t.rest else 0)->l2.sh.miles=l.sh.miles+m->max g st.opn<=st.cls ->
    sb x p.t (Lf x p s k (vs.take j) l b) vs[j] st g m=Lf x p s k (vs.take (j+1)) l2 false:=by
   intro l l2 b g m e1 e2 e3 hmx;have hdv:DV st g=max g st.opn+st.serv:=by unfold DV;rw [if_neg (by omega)]
   have hpl2:pP p (vs.take (j+1)).length=st.place:=by rw [List.length_take,Nat.min_eq_left (by omega)];exact PP hst
   unfold sb Lf;simp only [hdv,e1,e2,e3,hpl2];rw [htk,lC,setV_snoc,opV_snoc];simp
  rw [htk,lI,<- htk];unfold Cr;rw [List.mem_flatMap];constructor
  ·rintro ⟨lb,hlb,hx⟩
   obtain ⟨⟨hab,hf⟩,cs,l,z,b,hcs,hr,rfl⟩:=(ih lb).1 hlb;obtain ⟨st2,g,m,hs2,_,hg,hd,hmx,hfl,hw⟩:=mE.1 hx;rw [hsto] at hs2;injection hs2 with hs2
   subst hs2
   have hg2:gP p.x p.t.prof (pP p j) st.place (l.ready+if b then p.t.rest else 0)=(g,m,0):=by
    rw [hpx,<- hplace];exact hg
   obtain ⟨l2,hn,e1,e2,e3⟩:=nextP_some hst hg2 hmx hd;refine ⟨⟨hab,fun i hi=>?_⟩,cs ++ [b],l2,0,?_⟩
   ·rcases Nat.lt_or_ge i (j+1) with h | h
    ·exact hf i (by omega)
    ·have:i=j+1:=by omega
     subst this;rw [htk,lC];exact hfl
   ·have hr2:=run_app (b:=b) hr (by rw [hcs];exact hn)
    have hS:=hsteps l l2 b g m e1 e2 e3 hmx;rcases mw.1 hw with rfl | rfl
    ·exact ⟨false,by simp [hcs],hr2,hS⟩
    ·exact ⟨true,by simp [hcs],hr2,by rw [hS,Bo]⟩
  ·rintro ⟨⟨hab,hf⟩,cs,l2,z,b2,hcs,hr,rfl⟩
   obtain ⟨ds,b,rfl,hds⟩:=So hcs;obtain ⟨l,z1,hr1,z2,hn⟩:=rT hr;rw [hds] at hn;obtain ⟨g,m,hg,hd,e2,e3,hm⟩:=ni hn;rw [hst] at hm;simp only at hm;obtain ⟨hmx,e1,_⟩:=hm;have hend:EP p j=st.place:=by unfold EP;rw [hst]
   rw [hend,hpx] at hg;refine ⟨Lf x p s k (vs.take j) l b,(ih _).2 ⟨⟨hab,fun i hi=>hf i (by omega)⟩,ds,l,z1,b,hds,hr1,rfl⟩,mE.2 ⟨st,g,m,hsto,ready_lb hok hs ha hab hbt hnx,?_,hd,hmx,?_,?_⟩⟩
   ·show gP x p.t.prof (pP p (vs.take j).length) st.place _=_
    rw [hplace];exact hg
   ·have:=hf (j+1) (Nat.le_refl _)
    rw [htk,lC] at this;exact this
   ·rw [hsteps l l2 b g m e1 e2 e3 hmx]
    cases b2 with
    |false=>exact mw.2 (.inl rfl)
    |true=>exact mw.2 (.inr (Bo x p s k _ l2).symm)
theorem opV_zero {x:IV} (hok:IK x) {s:Nat} (hs:s<2 ^ x.ords.length) {vs:List (Int × Bool)} (hb:BT x s vs) (hl:vs.length=Ad x s):opV x s vs=0:=by
 have h3:=hok.no;have hall:=hb.all (by omega) hl;apply Nat.eq_of_testBit_eq
 intro i;rw [Nat.zero_testBit,<- Bool.not_eq_true,OV hok hs vs hb];rintro ⟨h1,h2,h4,_⟩;exact h4 (hall _ (Ma.2 ⟨i,bit_lt hs h1,h1,h2⟩))
theorem CL {x:IV} {t:TV} {a:LB} {e w:Int}:cL x t a=some (e,w)↔a.vis.length≠0/\a.op=0/\∃ m,gP x t.prof a.place t.tgt a.time=(e,m,0)/\a.driven+e - a.time<=t.drive/\e<=t.cls/\w=wV (sP x t a.kind a.vis e (a.miles+m)):=by
 unfold cL;constructor
 ·intro hc
  split at hc
  ·cases hc
  rename_i g0;split at hc
  ·cases hc
  rename_i g1;split at hc
  ·cases hc
  split at hc
  ·cases hc
  injection hc with hc
  injection hc with hc1 hc2
  subst hc1 hc2;refine ⟨fun h=>g0 (.inl h),by omega,_,?_,by omega,by omega,rfl⟩;have:(gP x t.prof a.place t.tgt a.time).2.2=0:=by omega
  rw [<- this]
 ·rintro ⟨h1,h2,m,hg,h3,h4,rfl⟩
  rw [if_neg (by omega),hg];simp only;rw [if_neg (by decide),if_neg (by omega),if_neg (by omega)]
theorem close_run {x:IV} (hok:IK x) {s:Nat} (hs:s<2 ^ x.ords.length) (ha:AP x s) {k:Int} {vs:List (Int × Bool)} {p:Tr} (hp:PlanIs x ⟨k,0,[],vs⟩ p) (hb:BT x s vs) (hl:vs.length=Ad x s) (h0:0<vs.length) {e w:Int} :
  (∃ a ∈ li x p.t (SL x p.t k s) vs,cL x p.t a=some (e,w))↔(aS x p.t s=true/\∀ i,i<=vs.length->fL (loadAt x s (vs.take i)) p.t.cap=true)/\∃ cs l z,cs.length=p.stops.length+1/\rP p cs=(some l,z)/\e=l.sh.fin/\w=wV (sP x p.t k vs l.sh.fin l.sh.miles):=by
 have hlen:=hp.len;simp only at hlen;have hop:=opV_zero hok hs hb hl;have hit:=lines_iff hok hs ha hp hb vs.length (Nat.le_refl _);rw [List.take_length] at hit;have hnone:p.stops[vs.length]? = none:=List.getElem?_eq_none (by omega);have hend:EP p vs.length=p.t.tgt:=by unfold EP;rw [hnone]
 constructor
 ·rintro ⟨a,ham,hc⟩
  obtain ⟨hg,cs,l,z,b,hcs,hr,rfl⟩:=(hit a).1 ham;refine ⟨hg,?_⟩;obtain ⟨_,_,m,hgo,hd,hm,rfl⟩:=CL.1 hc;unfold Lf at hgo hd;simp only at hgo hd;rw [<- hp.x] at hgo;obtain ⟨l2,hn,e1,e2⟩:=nextP_fin hnone hgo hm hd;have hr2:=run_app (b:=b) hr (by rw [hcs];exact hn);refine ⟨cs ++ [b],l2,0,by simp [hcs,hlen],hr2,?_,?_⟩
  ·exact e1.symm
  ·rw [e1,e2];rfl
 ·rintro ⟨hg,cs,l2,z,hcs,hr,rfl,rfl⟩
  obtain ⟨ds,b,rfl,hds⟩:=So hcs;rw [hlen] at hds;obtain ⟨l,z1,hr1,z2,hn⟩:=rT hr;rw [hds] at hn;obtain ⟨g,m,hgo,hd,_,e3,hm⟩:=ni hn;rw [hnone] at hm;simp only at hm;obtain ⟨hcl,_,hfin⟩:=hm;rw [hend,hp.x] at hgo;refine ⟨Lf x p s k vs l b,(hit _).2 ⟨hg,ds,l,z1,b,hds,hr1,rfl⟩,?_⟩;refine CL.2 ⟨by unfold Lf;simp only;omega,hop,m,?_,?_,?_,?_⟩
  ·rw [hfin];exact hgo
  ·rw [hfin];exact hd
  ·rw [hfin];exact hcl
  ·rw [e3];rfl
theorem mr {p:Tr} (hr0:p.r.rests=[]) (hp:TK p):∀ (N:Nat) (cs:List Bool) (l:LV) (z:Int),cs.length=p.stops.length+1->rP p cs=(some l,z)->l.sh.fin.toNat<=N->∃ s,BE p s/\MinS p s/\s.fin<=l.sh.fin
 |N,cs,l,z,hc,hr,hN=>by
  by_cases hm:MinS p l.sh
  ·have hz:=rz p _ _ _ _ _ hr
   subst hz;exact ⟨l.sh,⟨cs,l,hc,hr,rfl,by rw [hr0];simp,by rw [hr0];simp⟩,hm,Int.le_refl _⟩
  ·have:∃ cs2 l2 z2,cs2.length=p.stops.length+1/\rP p cs2=(some l2,z2)/\l2.sh.fin<l.sh.fin:=by
    apply Classical.byContradiction
    intro hno;refine hm fun cs2 hc2 _ l2 z2 hr2=>?_;rcases Int.lt_or_le l2.sh.fin l.sh.fin with h | h
    ·exact absurd ⟨cs2,l2,z2,hc2,hr2,h⟩ hno
    ·exact h
   obtain ⟨cs2,l2,z2,hc2,hr2,hlt⟩:=this;have h1:=(Tk.run_fin hp hc2 hr2).2.1;have h2:=hp.t.opn
   cases N with
   |zero=>omega
   |succ N =>
    obtain ⟨s,h3,h4,h5⟩:=mr hr0 hp N cs2 l2 z2 hc2 hr2 (by omega);exact ⟨s,h3,h4,by omega⟩
theorem Br {x:IV}:∀ (vs:List (Int × Bool)),(∀ v ∈ vs,∃ s,sO x v=some s)->∃ l,SO x vs=some l
 |[],_=>⟨[],rfl⟩
 |v :: vs,h=>by
  obtain ⟨s,hs⟩:=h v (by simp);obtain ⟨l,hl⟩:=Br vs fun u hu=>h u (by simp [hu]);exact ⟨s :: l,by rw [SO,hs];simp only;rw [hl]⟩
theorem stop_vis {x:IV} {v:Int × Bool} (h0:0<=v.1) (hv:v ∈ vO x v.1):∃ s,sO x v=some s:=by
 obtain ⟨_,o,ho,hp⟩:=mV.1 hv;unfold OA at ho;rw [if_neg (by omega)] at ho;unfold sO;rw [if_neg (by omega),ho];simp only;rw [if_neg (by omega)];exact ⟨_,rfl⟩
theorem BT.plan {x:IV} (hok:IK x) {s:Nat} {k:Int} (hk:0<=k) {t:TV} (ht:x.types[k.toNat]? = some t) {vs:List (Int × Bool)} (hb:BT x s vs) (hl:vs.length<=20):∃ p,PlanIs x ⟨k,0,[],vs⟩ p/\p.t=t:=by
 obtain ⟨l,hl2⟩:=Br (x:=x) vs fun v hv=>by
  obtain ⟨j,hj,rfl⟩:=List.getElem_of_mem hv;obtain ⟨h1,_,_,h2,_⟩:=mn.1 (hb j hj);exact stop_vis h1.1 h2
 exact ⟨⟨x,t,⟨k,0,[],vs⟩,l⟩,⟨rfl,rfl,hk,ht,hl2,by simp,hl⟩,rfl⟩
theorem able_set {x:IV} {t:TV} {vs:List (Int × Bool)} (h:∀ v ∈ vs,0<=v.1/\v.1<=62):AA x t vs=aS x t (sV vs):=by
 unfold AA aS;apply Bool.eq_iff_iff.2
 rw [List.all_eq_true,List.all_eq_true];constructor
 ·intro h1 i hi
  rw [mS,Cg h] at hi;obtain ⟨v,hv,rfl⟩:=Hf.1 hi;exact h1 v hv
 ·intro h1 v hv
  exact h1 v.1 (mS.2 ((Cg h).2 (Hf.2 ⟨v,hv,rfl⟩)))
theorem carry_iff {x:IV} {t:TV} {vs:List (Int × Bool)}:cB x t vs=true↔∀ i,i<=vs.length->fL (loadAt x (sV vs) (vs.take i)) t.cap=true:=by
 unfold cB lP;rw [List.all_map,List.all_eq_true];constructor
 ·intro h i hi
  exact h i (List.mem_range.2 (by omega))
 ·intro h i hi
  exact h i (by have:=List.mem_range.1 hi;omega)
structure Se (x:IV) (s:Nat) (t:TV) (k:Int):Prop where
 ok:IK x
 lt:s<2 ^ x.ords.length
 pos:0<s
 allow:AP x s
 k0:0<=k
 typ:x.types[k.toNat]? = some t
theorem totV_le {x:IV} (hok:IK x) (s:Nat):Ad x s<=6:=by
 have h1:=totK_le x s x.ords.length;have h2:=hok.no;unfold Ad;omega
theorem Se.seq {x:IV} {s:Nat} {t:TV} {k:Int} (h:Se x s t k) {vs:List (Int × Bool)} (hv:vs ∈ sF x s (Ad x s) []):Bc x vs/\sV vs=s/\BT x s vs/\vs.length=Ad x s/\∃ p,PlanIs x ⟨k,0,[],vs⟩ p/\p.t=t:=by
 obtain ⟨h1,h2⟩:=seqs_right h.ok h.lt h.pos h.allow hv;obtain ⟨h3,h4⟩:=me.1 hv;have:=totV_le h.ok s;exact ⟨h1,h2,h4,h3,h4.plan h.ok h.k0 h.typ (by omega)⟩
theorem good_iff {x:IV} {s:Nat} {t:TV} {k:Int} (h:Se x s t k) {vs:List (Int × Bool)} (hv:vs ∈ sF x s (Ad x s) []):GR x t ⟨k,0,[],vs⟩↔aS x t s=true/\∀ i,i<=vs.length->fL (loadAt x s (vs.take i)) t.cap=true:=by
 obtain ⟨h1,h2,_,_,_⟩:=h.seq hv
 have hr:∀ v ∈ vs,0<=v.1/\v.1<=62:=fun v hv=>by
  have:=h1.rng v hv;have:=h.ok.no;omega
 constructor
 ·intro hg
  have h3:=hg.able;have h4:=hg.carry;simp only at h3 h4;rw [able_set hr,h2] at h3;rw [carry_iff,h2] at h4;exact ⟨h3,h4⟩
 ·rintro ⟨h3,h4⟩
  refine ⟨h.k0,h.typ,seqOK_iff.2 h1,?_,?_⟩
  ·simp only;rw [able_set hr,h2];exact h3
  ·simp only;rw [carry_iff,h2];exact h4
theorem price_label {x:IV} {s:Nat} {t:TV} {k:Int} (h:Se x s t k) {vs:List (Int × Bool)} (hv:vs ∈ sF x s (Ad x s) []) {n:Int} (hn:PI x ⟨k,0,[],vs⟩ n):∃ a ∈ li x t (SL x t k s) vs,∃ e,cL x t a=some (e,n):=by
 obtain ⟨h1,h2,h3,h4,p,hp,rfl⟩:=h.seq hv;obtain ⟨q,sh,hq,hbs,hmin,hgood,rfl⟩:=hn;have:=hq.one hp;subst this;obtain ⟨cs,l,hc,hr,rfl,_,_⟩:=hbs.run;obtain ⟨a,ha,hcl⟩:=(close_run h.ok h.lt h.allow hp h3 h4 h1.pos).2 ⟨(good_iff h hv).1 hgood,cs,l,0,hc,hr,rfl,rfl⟩;exact ⟨a,ha,_,hcl⟩
theorem Lp {x:IV} {s:Nat} {t:TV} {k:Int} (h:Se x s t k) {vs:List (Int × Bool)} (hv:vs ∈ sF x s (Ad x s) []) {a:LB} {e m:Int} (ha:a ∈ li x t (SL x t k s) vs) (hc:cL x t a=some (e,m)):∃ n,PI x ⟨k,0,[],vs⟩ n/\n<=m:=by
 obtain ⟨h1,h2,h3,h4,p,hp,rfl⟩:=h.seq hv;obtain ⟨hg,cs,l,z,hcs,hr,rfl,rfl⟩:=(close_run h.ok h.lt h.allow hp h3 h4 h1.pos).1 ⟨a,ha,hc⟩;have htr:=hp.ok h.ok;have hr0:p.r.rests=[]:=by rw [hp.r]
 obtain ⟨sh,hb,hm,hle⟩:=mr hr0 htr _ cs l z hcs hr (Nat.le_refl _);refine ⟨_,⟨p,sh,hp,hb,hm,(good_iff h hv).2 hg,rfl⟩,?_⟩;obtain ⟨cs2,l2,hc2,hr2,rfl,_,_⟩:=hb.run;have f1:=Tk.run_fin htr hcs hr;have f2:=Tk.run_fin htr hc2 hr2;exact wm (hp.typX h.ok) rfl rfl f2.2.1 hle (by rw [f1.2.2,f2.2.2];exact Int.le_refl _)
def cntS (f:Int->Bool) (s:Nat):Nat->Int
 |0=>0
 |n+1=>cntS f s n+if s.testBit n && f (n:Int) then 1 else 0
theorem cntS_add (f:Int->Bool) {s o:Nat} (hb:s.testBit o=false):∀ n,cntS f (s ||| 1 <<< o) n=cntS f s n+if decide (o<n) && f (o:Int) then 1 else 0
 |0=>by simp [cntS]
 |n+1=>by
  rw [cntS,cntS,cntS_add f hb n,or_bit1];rcases Nat.lt_trichotomy o n with h | h | h
  ·rw [decide_eq_true h,decide_eq_true (show o<n+1 by omega),decide_eq_false (show ¬ o=n by omega),Bool.or_false]
   omega
  ·subst h
   rw [hb,decide_eq_false (show ¬ o<o by omega),decide_eq_true (show o<o+1 by omega),decide_eq_true rfl];simp
  ·rw [decide_eq_false (show ¬ o<n by omega),decide_eq_false (show ¬ o<n+1 by omega),decide_eq_false (show ¬ o=n by omega),Bool.or_false]
   simp
theorem cS {f:Int->Bool} {vs:List (Int × Bool)} {n:Nat} (hr:∀ v ∈ vs,0<=v.1/\v.1<(n:Int)):∀ k,k<=vs.length->cK f vs k=cntS f (sV (vs.take k)) n
 |0,_=>by
  have:∀ n,cntS f 0 n=0:=by
   intro n
   induction n with
   |zero=>rfl
   |succ n ih=>rw [cntS,ih];simp
  rw [List.take_zero];exact (this n).symm
 |k+1,hk=>by
  have hkl:k<vs.length:=by omega
  have hv:=hr _ (List.getElem_mem hkl);rw [cK,cS hr k (by omega),Cm hkl,getD_at vs _ hkl];unfold newV;rw [getD_at vs _ hkl];obtain ⟨o,ho⟩:∃ o:Nat,vs[k].1=(o:Int):=⟨vs[k].1.toNat,by omega⟩
  rw [ho] at hv ⊢;rw [Int.toNat_natCast];by_cases hb:(sV (vs.take k)).testBit o=true
  ·have h1:Ai (vs.take k) (o:Int)=true:=by
    obtain ⟨u,hu,e⟩:=mB.1 hb;have:=hr u (List.mem_of_mem_take hu);exact Hf.2 ⟨u,hu,by omega⟩
   rw [h1,or_has hb];simp
  ·have h1:Ai (vs.take k) (o:Int)=false:=by
    rw [<- Bool.not_eq_true,Hf];rintro ⟨u,hu,e⟩;exact hb (mB.2 ⟨u,hu,by omega⟩)
   rw [h1,cntS_add f ((Bool.not_eq_true _).mp hb),decide_eq_true (show o<n by omega)];simp
theorem dom_price {x:IV} {s:Nat} {t:TV} {k:Int} (h:Se x s t k) {vs us:List (Int × Bool)} (hv:vs ∈ sF x s (Ad x s) []) (hu:us ∈ sF x s (Ad x s) []) {a b:LB} (ha:a ∈ li x t (SL x t k s) vs) (hb:b ∈ li x t (SL x t k s) us)
  (hd:dB a b=true) {e1 m1 e2 m2:Int} (h1:cL x t a=some (e1,m1)) (h2:cL x t b=some (e2,m2)):m1<=m2:=by
 obtain ⟨sv,ev,_,_,_⟩:=h.seq hv;obtain ⟨su,eu,_,_,_⟩:=h.seq hu;have htt:=h.ok.types t (List.mem_of_getElem? h.typ);have hso:=start_ok h.ok h.lt htt k;obtain ⟨oka,va⟩:=Lk h.ok htt hso vs sv.rng a ha;obtain ⟨okb,vb⟩:=Lk h.ok htt hso us su.rng b hb;unfold dB at hd;simp only [Bool.and_eq_true,beq_iff_eq,decide_eq_true_iff] at hd;obtain ⟨⟨⟨⟨_,hpl⟩,_⟩,_⟩,⟨⟨htm,_⟩,hmi⟩,_⟩:=hd
 have key:∀ (c:LB) (e m:Int),cL x t c=some (e,m)->(gP x t.prof c.place t.tgt c.time).2.2=0/\e=(gP x t.prof c.place t.tgt c.time).1/\m=wV (sP x t c.kind c.vis e (c.miles+(gP x t.prof c.place t.tgt c.time).2.1)):=by
  intro c e m hc;obtain ⟨_,_,n,hg,_,_,rfl⟩:=CL.1 hc;rw [hg];exact ⟨rfl,rfl,rfl⟩
 obtain ⟨a1,a2,a3⟩:=key a e1 m1 h1;obtain ⟨b1,b2,b3⟩:=key b e2 m2 h2;have hge:=goP_ge h.ok a1;have hmono:=goP_mono h.ok (prof:=t.prof) (frm:=a.place) (tgt:=t.tgt) htm;have hsame:=goP_same x t.prof a.place t.tgt a.time b.time;rw [<- hpl] at b2 b3;rw [a3,b3,oka.kind,okb.kind,va,vb];have hto:=oka.time
 refine wm (d:=dV x) (h.ok.typesX t (List.mem_of_getElem? h.typ)) ?_ ?_ (by omega) (by omega) (by rw [hsame];omega)
 ·rw [cS sv.rng vs.length (Nat.le_refl _),cS su.rng us.length (Nat.le_refl _),List.take_length,List.take_length,ev,eu]
 ·rw [cS sv.rng vs.length (Nat.le_refl _),cS su.rng us.length (Nat.le_refl _),List.take_length,List.take_length,ev,eu]
def ClosedL (x:IV) (t:TV) (k:Int) (s:Nat) (a:LB):Prop:=∃ vs ∈ sF x s (Ad x s) [],a ∈ li x t (SL x t k s) vs/\(cL x t a).isSome=true
structure Ke (x:IV) (t:TV) (k:Int) (s:Nat) (P:LB->Prop) (out:List LB):Prop where
 own:∀ a ∈ out,ClosedL x t k s a
 all:∀ a,P a->∀ e m,cL x t a=some (e,m)->∃ b ∈ out,∃ e' m',cL x t b=some (e',m')/\m'<=m
theorem kept_step {x:IV} {s:Nat} {t:TV} {k:Int} (h:Se x s t k) {P:LB->Prop} {out:List LB} (hk:Ke x t k s P out) {a:LB} {vs:List (Int × Bool)} (hv:vs ∈ sF x s (Ad x s) []) (ha:a ∈ li x t (SL x t k s) vs):Ke x t k s (fun b=>P b∨b=a) (eS x t out a):=by
 unfold eS;by_cases hc:(cL x t a).isSome=true
 ·rw [if_pos hc]
  obtain ⟨⟨e0,m0⟩,hc0⟩:=Option.isSome_iff_exists.1 hc;have hca:ClosedL x t k s a:=⟨vs,hv,ha,hc⟩
  refine ⟨fun b hb=>?_,fun b hb e m hbc=>?_⟩
  ·rcases keepLb_mem hb with hb | rfl
   ·exact hk.own b hb
   ·exact hca
  ·unfold KL
   by_cases hd:out.any (fun c=>dB c a)=true
   ·rw [if_pos hd]
    rcases hb with hb | rfl
    ·exact hk.all b hb e m hbc
    ·obtain ⟨c,hcm,hcd⟩:=List.any_eq_true.1 hd
     obtain ⟨us,hu,hcu,hcs⟩:=hk.own c hcm;obtain ⟨⟨e1,m1⟩,hc1⟩:=Option.isSome_iff_exists.1 hcs;exact ⟨c,hcm,e1,m1,hc1,dom_price h hu hv hcu ha hcd hc1 hbc⟩
   ·rw [if_neg hd]
    rcases hb with hb | rfl
    ·obtain ⟨c,hcm,e1,m1,hc1,hle⟩:=hk.all b hb e m hbc
     by_cases hdc:dB a c=true
     ·obtain ⟨us,hu,hcu,_⟩:=hk.own c hcm
      exact ⟨a,by simp,e0,m0,hc0,Int.le_trans (dom_price h hv hu ha hcu hdc hc0 hc1) hle⟩
     ·exact ⟨c,List.mem_append.2 (.inl (List.mem_filter.2 ⟨hcm,by simpa using hdc⟩)),e1,m1,hc1,hle⟩
    ·exact ⟨b,by simp,e,m,hbc,Int.le_refl _⟩
 ·rw [if_neg hc]
  refine ⟨hk.own,fun b hb e m hbc=>?_⟩;rcases hb with hb | rfl
  ·exact hk.all b hb e m hbc
  ·rw [hbc] at hc;exact absurd rfl hc
theorem Ke.imp {x:IV} {s:Nat} {t:TV} {k:Int} {P Q:LB->Prop} {out:List LB} (h:Ke x t k s P out) (hi:∀ a,Q a->P a):Ke x t k s Q out:=⟨h.own,fun a ha=>h.all a (hi a ha)⟩
theorem kept_seq {x:IV} {s:Nat} {t:TV} {k:Int} (h:Se x s t k) {vs:List (Int × Bool)} (hv:vs ∈ sF x s (Ad x s) []):∀ (q:List LB) (P:LB->Prop) (out:List LB),Ke x t k s P out->(∀ a ∈ q,a ∈ li x t (SL x t k s) vs)->Ke x t k s (fun b=>P b∨b ∈ q) (q.foldl (eS x t) out)
 |[],P,out,hk,_=>hk.imp fun a ha=>by simpa using ha
 |a :: q,P,out,hk,hq=>by
  rw [List.foldl_cons]
  exact (kept_seq h hv q _ _ (kept_step h hk hv (hq a (by simp))) fun b hb=>hq b (by simp [hb])).imp fun b hb=>by
   rcases hb with hb | hb
   ·exact .inl (.inl hb)
   ·rcases List.mem_cons.1 hb with hb | hb
    ·exact .inl (.inr hb)
    ·exact .inr hb
theorem kept_all {x:IV} {s:Nat} {t:TV} {k:Int} (h:Se x s t k):∀ (L:List (List (Int × Bool))) (P:LB->Prop) (out:List LB),Ke x t k s P out->(∀ vs ∈ L,vs ∈ sF x s (Ad x s) [])->Ke x t k s (fun b=>P b∨∃ vs ∈ L,b ∈ li x t (SL x t k s) vs) (L.foldl (ES x t (SL x t k s)) out)
 |[],P,out,hk,_=>hk.imp fun a ha=>by simpa using ha
 |vs :: L,P,out,hk,hL=>by
  rw [List.foldl_cons];unfold ES at *
  exact (kept_all h L _ _ (kept_seq h (hL vs (by simp)) _ _ _ hk fun a ha=>ha) fun us hu=>hL us (by simp [hu])).imp fun b hb=>by
   rcases hb with hb | ⟨us,hu,hb⟩
   ·exact .inl (.inl hb)
   ·rcases List.mem_cons.1 hu with rfl | hu
    ·exact .inl (.inr hb)
    ·exact .inr ⟨us,hu,hb⟩
theorem ends_kept {x:IV} {s:Nat} {t:TV} {k:Int} (h:Se x s t k):Ke x t k s (fun b=>∃ vs ∈ sF x s (Ad x s) [],b ∈ li x t (SL x t k s) vs) (endsL x t (SL x t k s) (sF x s (Ad x s) [])) :=
 (kept_all h _ (fun _=>False) [] ⟨fun a ha=>by simp at ha,fun a ha=>ha.elim⟩ fun vs hv=>hv).imp fun b hb=>.inr hb
structure BestC (x:IV) (k:Int) (s:Nat) (n:Int):Prop where
 some:∃ vs ∈ sF x s (Ad x s) [],PI x ⟨k,0,[],vs⟩ n
 least:∀ vs ∈ sF x s (Ad x s) [],∀ m,PI x ⟨k,0,[],vs⟩ m->n<=m
def NoneC (x:IV) (k:Int) (s:Nat):Prop:=∀ vs ∈ sF x s (Ad x s) [],∀ m,¬ PI x ⟨k,0,[],vs⟩ m
theorem least_yes {x:IV} {s:Nat} {t:TV} {k n:Int} (h:Se x s t k) (hb:BestC x k s n):(∃ a ∈ endsL x t (SL x t k s) (sF x s (Ad x s) []),∃ e,cL x t a=some (e,n))/\∀ a ∈ endsL x t (SL x t k s) (sF x s (Ad x s) []),∀ e m,cL x t a=some (e,m)->n<=m:=by
 have hk:=ends_kept h
 have h2:∀ a ∈ endsL x t (SL x t k s) (sF x s (Ad x s) []),∀ e m,cL x t a=some (e,m)->n<=m:=fun a ha e m hc=>by
  obtain ⟨vs,hv,hl,_⟩:=hk.own a ha;obtain ⟨n2,hn2,hle⟩:=Lp h hv hl hc;exact Int.le_trans (hb.least vs hv n2 hn2) hle
 refine ⟨?_,h2⟩;obtain ⟨vs,hv,hn⟩:=hb.some;obtain ⟨a,ha,e,hc⟩:=price_label h hv hn;obtain ⟨b,hbm,e2,m2,hc2,hle⟩:=hk.all a ⟨vs,hv,ha⟩ e n hc;have:=h2 b hbm e2 m2 hc2;have:m2=n:=by omega
 subst this;exact ⟨b,hbm,e2,hc2⟩
theorem least_no {x:IV} {s:Nat} {t:TV} {k:Int} (h:Se x s t k) (hb:NoneC x k s):∀ a ∈ endsL x t (SL x t k s) (sF x s (Ad x s) []),∀ e m,cL x t a≠some (e,m):=by
 intro a ha e m hc;obtain ⟨vs,hv,hl,_⟩:=(ends_kept h).own a ha;obtain ⟨n2,hn2,_⟩:=Lp h hv hl hc;exact hb vs hv n2 hn2
theorem route_in {x:IV} {k:Int} {vs:List (Int × Bool)} {n:Int} (hok:IK x) (hp:PI x ⟨k,0,[],vs⟩ n):AP x (sV vs)/\vs ∈ sF x (sV vs) (Ad x (sV vs)) []:=by
 obtain ⟨p,sh,_,_,_,hg,_⟩:=hp;have h1:=seqOK_iff.1 hg.seq;have:=hok.no;exact ⟨h1.allow (by omega),h1.mem (by omega)⟩
theorem keepL_mem {L:List (Int × Int)} {s a:Int × Int}:a ∈ kL L s↔a ∈ L∨a=s:=by
 unfold kL;split
 ·rename_i h
  unfold stIn at h;obtain ⟨b,hb,e⟩:=List.any_eq_true.1 h;rw [isSt_iff] at e;constructor
  ·exact .inl
  ·rintro (h2 | rfl)
   ·exact h2
   ·rw [<- e];exact hb
 ·rw [List.mem_append,List.mem_singleton]
theorem RL {t:TV} {L:List (Int × Int)} {d v:Int} {a:Int × Int}:a ∈ rL t L d v↔(a ∈ L∨a=(d,v))∨a=(d+t.rest,0):=by
 unfold rL;rw [keepL_mem,keepL_mem]
theorem step_mono {x:IV} {t:TV} {frm:Int} {s:St} {out:List (Int × Int)} {a b:Int × Int} (h:b ∈ out):b ∈ sS x t frm s out a:=by
 unfold sS;split
 ·exact h
 split
 ·exact h
 split
 ·exact h
 ·exact RL.2 (.inl (.inl h))
theorem fm {x:IV} {t:TV} {frm:Int} {s:St} {b:Int × Int}:∀ (L out:List (Int × Int)),b ∈ out->b ∈ L.foldl (sS x t frm s) out
 |[],out,h=>h
 |a :: L,out,h=>by
  rw [List.foldl_cons];exact fm L _ (step_mono h)
theorem visit_mem {x:IV} {t:TV} {frm:Int} {s:St} {a:Int × Int} {g m:Int} (hg:gP x t.prof frm s.place a.1=(g,m,0)) (hd:a.2+g - a.1<=t.drive) (hm:max g s.opn<=s.cls):∀ (L out:List (Int × Int)),a ∈ L ->
  (max g s.opn+s.serv,a.2+g - a.1) ∈ L.foldl (sS x t frm s) out/\(max g s.opn+s.serv+t.rest,0) ∈ L.foldl (sS x t frm s) out
 |[],out,h=>by simp at h
 |b :: L,out,h=>by
  rw [List.foldl_cons];rcases List.mem_cons.1 h with rfl | h
  ·have e1:dE s g=0:=by unfold dE;rw [if_neg (by omega)]
   have e2:DV s g=max g s.opn+s.serv:=by unfold DV;rw [if_neg (by omega)]
   have e:sS x t frm s out a=rL t out (max g s.opn+s.serv) (a.2+g - a.1):=by
    unfold sS;rw [hg];simp only;rw [if_neg (by decide),if_neg (by omega),e1,if_neg (by decide),e2]
   rw [e];exact ⟨fm L _ (RL.2 (.inl (.inr rfl))),fm L _ (RL.2 (.inr rfl))⟩
  ·exact visit_mem hg hd hm L _ h
def WF (x:IV) (t:TV) (s:Nat):Nat->List (Int × Bool)->Int->List (Int × Int)->List (List (Int × Bool))
 |0,l,_,_=>[l]
 |n+1,l,frm,L=>(NV x s l).flatMap fun v=>match sO x v with
  |none=>[]
  |some st=>if (vL x t frm st L).length=0 then [] else WF x t s n (l ++ [v]) st.place (vL x t frm st L)
theorem run_prefix {p:Tr}:∀ (bs es:List Bool) (l:LV) (z:Int),rP p (es ++ bs)=(some l,z)->∃ l2 z2,rP p es=(some l2,z2):=by
 intro bs;generalize hn:bs.length=n
 induction n generalizing bs with
 |zero =>
  intro es l z h;have:bs=[]:=List.length_eq_zero_iff.1 hn;subst this;rw [List.append_nil] at h;exact ⟨l,z,h⟩
 |succ n ih =>
  intro es l z h;obtain ⟨ds,b,rfl,hd⟩:=So hn;rw [<- List.append_assoc] at h;obtain ⟨l1,z1,h1,_⟩:=rT h;exact ih ds hd es l1 z1 h1
def StIn (p:Tr) (j:Nat) (L:List (Int × Int)):Prop:=∀ (cs:List Bool) (l:LV) (z:Int) (b:Bool),cs.length=j->rP p cs=(some l,z)->(l.ready+(if b then p.t.rest else 0),if b then 0 else l.since) ∈ L
theorem walkF_in {x:IV} {s:Nat} {k:Int} {vs:List (Int × Bool)} {p:Tr} (hp:PlanIs x ⟨k,0,[],vs⟩ p) {cs:List Bool} {lf:LV} {z:Int} (hcs:cs.length=p.stops.length+1) (hrun:rP p cs=(some lf,z)) :
  ∀ (n:Nat) (l:List (Int × Bool)) (L:List (Int × Int)),vs ∈ sF x s n l->StIn p l.length L->vs ∈ WF x p.t s n l (pP p l.length) L
 |0,l,L,h,_=>h
 |n+1,l,L,h,hL=>by
  have hlen:=hp.len;simp only at hlen;obtain ⟨us,hu1,hu2,hu3⟩:=(Ms (n+1) l vs).1 h;have hl:l.length<vs.length:=by rw [hu2,List.length_append];omega
  have hv:vs[l.length]'hl=us[0]'(by omega):=by
   simp only [hu2];rw [List.getElem_append_right (Nat.le_refl _)];simp
  have hvn:vs[l.length]'hl ∈ NV x s l:=by
   have:=hu3 0 (by omega);rw [List.take_zero,List.append_nil] at this;rw [hv];exact this
  have hpre:vs.take (l.length+1)=l ++ [vs[l.length]'hl]:=by
   rw [Ts hl];congr 1
   rw [hu2,List.take_left]
  obtain ⟨st,hst⟩:∃ st,p.stops[l.length]? = some st:=⟨_,List.getElem?_eq_getElem (show l.length<p.stops.length by omega)⟩
  have hsto:sO x (vs[l.length]'hl)=some st:=by
   have:=Ak x vs p.stops l.length hl (by omega) hp.stops;rw [this];rw [List.getElem?_eq_getElem (show l.length<p.stops.length by omega)] at hst;exact hst
  have hnext:StIn p (l.length+1) (vL x p.t (pP p l.length) st L):=by
   intro cs2 l2 z2 b2 hc2 hr2;obtain ⟨ds,b,rfl,hds⟩:=So hc2;obtain ⟨l1,z1,hr1,z3,hn⟩:=rT hr2;have hin:=hL ds l1 z1 b hds hr1;rw [hds] at hn;obtain ⟨g,m,hg,hd,e2,_,hm⟩:=ni hn;rw [hst] at hm;simp only at hm;obtain ⟨hmx,e1,_⟩:=hm;have hend:EP p l.length=st.place:=by unfold EP;rw [hst]
   rw [hend,hp.x] at hg;obtain ⟨k1,k2⟩:=visit_mem (a:=(l1.ready+(if b then p.t.rest else 0),if b then 0 else l1.since)) hg hd hmx L [] hin;rw [e1,e2]
   cases b2 with
   |false=>rw [if_neg (by decide),if_neg (by decide),Int.add_zero];exact k1
   |true=>exact k2
  have hne:(vL x p.t (pP p l.length) st L).length≠0:=by
   have hsplit:cs=cs.take (l.length+1) ++ cs.drop (l.length+1):=(List.take_append_drop _ _).symm;rw [hsplit] at hrun;obtain ⟨l2,z2,hr2⟩:=run_prefix _ _ _ _ hrun;have:=hnext _ l2 z2 false (by rw [List.length_take];omega) hr2;intro h0;rw [List.length_eq_zero_iff.1 h0] at this;simp at this
  rw [WF];refine List.mem_flatMap.2 ⟨vs[l.length]'hl,hvn,?_⟩;rw [hsto];simp only;rw [if_neg hne]
  have hrec:=walkF_in hp hcs hrun n (l ++ [vs[l.length]'hl]) (vL x p.t (pP p l.length) st L) ((Ms n _ vs).2 ⟨us.drop 1,by rw [List.length_drop];omega,by
    rw [List.append_assoc,hv];rw [hu2];congr 1
    cases us with
    |nil=>simp at hu1
    |cons u us=>simp,fun j hj=>by
    rw [List.length_drop] at hj;have:=hu3 (j+1) (by omega);rw [List.getElem_drop,hv,List.append_assoc]
    have e:us.take (j+1)=[us[0]'(by omega)] ++ (us.drop 1).take j:=by
     cases us with
     |nil=>simp at hu1
     |cons u us=>simp
    rw [<- e];have e2:us[1+j]'(by omega)=us[j+1]'(by omega):=by congr 1;omega
    rw [e2];exact this⟩) (by rw [List.length_append,List.length_singleton];exact hnext)
  rw [List.length_append,List.length_singleton,PP hst] at hrec;exact hrec
structure Sh (x:IV) (k:Int) (s:Nat) (P:List (Int × Bool)->Prop) (f:Bool) (n:Int):Prop where
 yes:f=true->(∃ vs ∈ sF x s (Ad x s) [],PI x ⟨k,0,[],vs⟩ n)/\∀ vs,P vs->∀ m,PI x ⟨k,0,[],vs⟩ m->n<=m
 no:f=false->∀ vs,P vs->∀ m,¬ PI x ⟨k,0,[],vs⟩ m
theorem Sh.imp {x:IV} {k:Int} {s:Nat} {P Q:List (Int × Bool)->Prop} {f:Bool} {n:Int} (h:Sh x k s P f n) (hi:∀ vs,Q vs->P vs):Sh x k s Q f n:=⟨fun e=>⟨(h.yes e).1,fun vs hv=>(h.yes e).2 vs (hi vs hv)⟩,fun e vs hv=>h.no e vs (hi vs hv)⟩
theorem Sh.zero (x:IV) (k:Int) (s:Nat) (n:Int):Sh x k s (fun _=>False) false n:=⟨fun (h:false=true)=>(by cases h),fun _ vs h=>h.elim⟩
theorem Sh.skip {x:IV} {k:Int} {s:Nat} {P:List (Int × Bool)->Prop} {f:Bool} {n:Int} (h:Sh x k s P f n) {l:List (Int × Bool)} (hn:NoPrice x ⟨k,0,[],l⟩):Sh x k s (fun vs=>P vs∨vs=l) f n:=by
 have hno:∀ m,¬ PI x ⟨k,0,[],l⟩ m:=by
  rintro m ⟨p,sh,hp,hb,_,hg,_⟩;rcases hn with hn | hn
  ·obtain ⟨cs,lf,hc,hr,_,h1,h2⟩:=hb.run
   have hr0:p.r.rests=[]:=by rw [hp.r]
   exact hn p hp cs hc (by simp) (fun j _ hj=>by simp at hj) lf 0 hr
  ·exact hn _ hg
 refine ⟨fun e=>⟨(h.yes e).1,fun vs hv=>?_⟩,fun e vs hv=>?_⟩
 ·rcases hv with hv | rfl
  ·exact (h.yes e).2 vs hv
  ·exact fun m hm=>absurd hm (hno m)
 ·rcases hv with hv | rfl
  ·exact h.no e vs hv
  ·exact hno
theorem price_one {x:IV} (hok:IK x) {r:RV} {n m:Int} (h1:PI x r n) (h2:PI x r m):n=m:=by
 obtain ⟨p,s1,hp,hb1,hm1,_,rfl⟩:=h1;obtain ⟨q,s2,hq,hb2,hm2,_,rfl⟩:=h2;have:=hq.one hp;subst this;have htr:=hp.ok hok;obtain ⟨c1,l1,hc1,hr1,rfl,hle1,ht1⟩:=hb1.run;obtain ⟨c2,l2,hc2,hr2,rfl,hle2,ht2⟩:=hb2.run
 have agr:∀ {c:List Bool},c.take q.r.rests.length=q.r.rests->Agr q.r.rests c:=fun {c} h j hj hjr=>by
  have:=congrArg (fun l=>l[j]?) h;simp only [List.getElem?_take,if_pos hjr] at this;exact this
 have f1:=hm1 c2 hc2 (agr ht2) l2 0 hr2;have f2:=hm2 c1 hc1 (agr ht1) l1 0 hr1;have g1:=Tk.run_fin htr hc1 hr1;have g2:=Tk.run_fin htr hc2 hr2;have e:l1.sh.fin=l2.sh.fin:=Int.le_antisymm f1 f2;rw [e,g1.2.2,g2.2.2]
theorem Sh.step {x:IV} (hok:IK x) {k:Int} {s:Nat} {P:List (Int × Bool)->Prop} {f:Bool} {n c:Int} (h:Sh x k s P f n) {l:List (Int × Bool)} (hl:l ∈ sF x s (Ad x s) []) (hc:PI x ⟨k,0,[],l⟩ c) {d:Int} (hd:(d=c/\(f=true->c<=n))∨(d=n/\f=true/\n<=c)):Sh x k s (fun vs=>P vs∨vs=l) true d:=by
 refine ⟨fun _=>?_,fun e=>by cases e⟩;rcases hd with ⟨rfl,h1⟩ | ⟨rfl,h1,h2⟩
 ·refine ⟨⟨l,hl,hc⟩,fun vs hv m hm=>?_⟩
  rcases hv with hv | rfl
  ·cases f with
   |true=>exact Int.le_trans (h1 rfl) ((h.yes rfl).2 vs hv m hm)
   |false=>exact absurd hm (h.no rfl vs hv m)
  ·rw [price_one hok hc hm];exact Int.le_refl _
 ·refine ⟨(h.yes h1).1,fun vs hv m hm=>?_⟩
  rcases hv with hv | rfl
  ·exact (h.yes h1).2 vs hv m hm
  ·rw [<- price_one hok hc hm];exact h2
theorem Sh.best {x:IV} {s:Nat} {t:TV} {k:Int} (h:Se x s t k) {f:Bool} {n:Int} (hs:Sh x k s (fun vs=>vs ∈ WF x t s (Ad x s) [] t.frm (rL t [] t.opn 0)) f n):(f=true->BestC x k s n)/\(f=false->NoneC x k s):=by
 have key:∀ vs ∈ sF x s (Ad x s) [],∀ m,PI x ⟨k,0,[],vs⟩ m->vs ∈ WF x t s (Ad x s) [] t.frm (rL t [] t.opn 0):=fun vs hv m hm=>by
  obtain ⟨p,sh,hp,hb,_,hg,_⟩:=hm;obtain ⟨cs,lf,hc,hr,_,_,_⟩:=hb.run
  have hpt:p.t=t:=by
   have h1:=hp.t;rw [h.typ] at h1;injection h1 with h1
   exact h1.symm
  subst hpt;have hop:=(hp.ok h.ok).t.opn;have hst:p.r.start=0:=by rw [hp.r]
  refine walkF_in hp hc hr (Ad x s) [] _ hv ?_;intro cs2 l2 z2 b hc2 hr2;have:=List.length_eq_zero_iff.1 hc2;subst this;unfold rP at hr2;rw [rF] at hr2;injection hr2 with hr2 _
  injection hr2 with hr2
  subst hr2;unfold L0;rw [hst];have e:max p.t.opn 0=p.t.opn:=by omega
  simp only [e]
  cases b with
  |false=>exact RL.2 (.inl (.inr (by simp)))
  |true=>exact RL.2 (.inr (by simp))
 exact ⟨fun e=>⟨(hs.yes e).1,fun vs hv m hm=>(hs.yes e).2 vs (key vs hv m hm) m hm⟩,fun e vs hv m hm=>hs.no e vs (key vs hv m hm) m hm⟩
end Go.Proofs.YtjcekdiocliddaaGreatDoor

/- Instances and schedules: plain. -/
import Derived.Test.YtjcekdiocliddaaGreatDoorG54
import Derived.Test.YtjcekdiocliddaaGreatDoorG55
import Derived.Test.YtjcekdiocliddaaGreatDoorG51
import Derived.Laws.AppendOwnNone
import Derived.WideShapes
namespace Go.Proofs.YtjcekdiocliddaaGreatDoor
namespace Tk
open Num Txt Pf
structure ArcV where
 frm:Int
 tgt:Int
 prof:Int
 miles:Int
 trav:List (Int × Int)
 slow:List (Int × Int)
structure St where
 place:Int
 opn:Int
 cls:Int
 serv:Int
structure TV where
 name:Sr
 count:Int
 frm:Int
 tgt:Int
 cap:List Int
 skills:Int
 prof:Int
 opn:Int
 cls:Int
 drive:Int
 rest:Int
 fixed:Int
 mile:Int
 tick:Int
structure OrdV where
 name:Sr
 load:List Int
 pick:St
 drop:St
 skills:Int
 pen:Int
 split:Int
 last:Int
 now:Int
 off:Bool
structure IV where
 places:List Sr
 arcs:List ArcV
 types:List TV
 ords:List OrdV
 apart:List (Int × Int)
 before:List (Int × Int)
def iT (t:Int):Prop:=0<=t/\t<=4096
structure PO (l:List (Int × Int)):Prop where
 pos:0<l.length
 len:l.length<=16
 each:∀ p ∈ l,0<=p.1/\p.1<=4096/\p.1<=p.2/\p.2<=p.1+4096
 next:∀ i (h:i+1<l.length),(l[i]'(by omega)).1<l[i+1].1/\(l[i]'(by omega)).2<=l[i+1].2
structure SlowOK (l:List (Int × Int)):Prop where
 len:l.length<=16
 each:∀ p ∈ l,iT p.1/\iT p.2
structure AK (a:ArcV):Prop where
 trav:PO a.trav
 slow:SlowOK a.slow
 miles:0<=a.miles/\a.miles<=10000
structure TO (t:TV):Prop where
 opn:0<=t.opn/\t.opn<=t.cls
 cls:t.cls<=4096
 drive:1<=t.drive/\t.drive<=4096
 rest:0<=t.rest/\t.rest<=4096
structure SK (s:St):Prop where
 ok:(s.place = -1/\s.opn=0/\s.cls=0/\s.serv=0)∨(0<=s.place/\0<=s.opn/\s.opn<=s.cls/\s.cls<=4096/\0<=s.serv/\s.serv<=4096)
def dV (x:IV):Nat:=match x.types with
 |[]=>0
 |t :: _=>t.cap.length
structure TX (d:Int) (t:TV):Prop where
 cap:(t.cap.length:Int)=d
 caps:∀ n ∈ t.cap,0<=n/\n<=1000
 skills:0<=t.skills/\t.skills<=1073741823
 fixed:0<=t.fixed/\t.fixed<=100000
 mile:0<=t.mile/\t.mile<=100
 tick:0<=t.tick/\t.tick<=100
 few:t.cap.length<=3
structure OrdX (d:Int) (o:OrdV):Prop where
 load:(o.load.length:Int)=d
 loads:∀ n ∈ o.load,0<=n/\n<=1000
 skills:0<=o.skills/\o.skills<=1073741823
 some:o.pick.place ≠ -1∨o.drop.place ≠ -1
structure IK (x:IV):Prop where
 arcs:∀ a ∈ x.arcs,AK a
 types:∀ t ∈ x.types,TO t
 ords:∀ o ∈ x.ords,SK o.pick/\SK o.drop
 np:x.places.length<=6
 na:x.arcs.length<=40
 nt:x.types.length<=2
 no:x.ords.length<=3
 typesX:∀ t ∈ x.types,TX (dV x) t
 ordsX:∀ o ∈ x.ords,OrdX (dV x) o
def pN (l:List (Int × Int)) (t:Int):Nat:=(l.takeWhile fun p=>decide (p.1<t)).length
def ar (l:List (Int × Int)) (t:Int):Int :=
 let i:=pN l t
 match l[i]? with
 |some q=>if q.1=t then q.2 else if i=0 then t+q.2 - q.1 else
   match l[i - 1]? with
   |some p=>p.2+((t - p.1)*(q.2 - p.2)+(q.1 - p.1) - 1).tdiv (q.1 - p.1)
   |none=>0
 |none=>match l[i - 1]? with
   |some p=>t+p.2 - p.1
   |none=>0
def SS (l:List (Int × Int)) (t:Int):Int:=(l.map fun p=>if p.1<=t then p.2 else 0).sum
def Cq (a:ArcV) (t:Int):Int:=ar a.trav t+SS a.slow t
def iP (x:IV) (i:Int):Bool:=decide (0<=i) && decide (i<x.places.length)
def gP (x:IV) (prof frm tgt t:Int):Int × Int × Int :=
 if !iP x frm || !iP x tgt then (0,0,11) else if frm=tgt then (t,0,0) else
  match x.arcs.find? fun a=>a.frm == frm && a.tgt == tgt && a.prof == prof with
  |some a=>(Cq a t,a.miles,0)
  |none=>(0,0,12)
structure TI where
 arr:Int
 beg:Int
 dep:Int
 rest:Bool
structure SV where
 rest:Bool
 dep:Int
 times:List TI
 fin:Int
 miles:Int
structure LV where
 ready:Int
 since:Int
 sh:SV
structure Tr where
 x:IV
 t:TV
 r:RV
 stops:List St
def L0 (p:Tr):LV:=⟨max p.t.opn p.r.start,0,⟨false,0,[],0,0⟩⟩
def pP (p:Tr) (k:Nat):Int:=if k=0 then p.t.frm else match p.stops[k - 1]? with
 |some s=>s.place
 |none=>0
def sD (s:SV) (done:Nat) (rest:Bool) (dep:Int):SV:=if done=0 then { s with rest:=rest,dep:=dep } else { s with times:=s.times.modify (done - 1) fun t=>{ t with rest:=rest,dep:=dep } }
def nP (p:Tr) (l:LV) (done:Nat) (rest:Bool):Option LV × Int :=
 let dep:=l.ready+if rest then p.t.rest else 0
 let since:=if rest then 0 else l.since
 let sh:=sD l.sh done rest dep
 match p.stops[done]? with
 |none =>
  let g:=gP p.x p.t.prof (pP p done) p.t.tgt dep
  if g.2.2≠0 then (none,12) else if g.1 > p.t.cls then (none,15) else if since+g.1 - dep > p.t.drive then (none,16)
  else (some ⟨g.1,since+g.1 - dep,{ sh with fin:=g.1,miles:=sh.miles+g.2.1 }⟩,0)
 |some s =>
  let g:=gP p.x p.t.prof (pP p done) s.place dep
  if g.2.2≠0 then (none,12) else if max g.1 s.opn > s.cls then (none,14) else if since+g.1 - dep > p.t.drive then (none,16)
  else (some ⟨max g.1 s.opn+s.serv,since+g.1 - dep,{ sh with times:=sh.times ++ [⟨g.1,max g.1 s.opn,0,false⟩],miles:=sh.miles+g.2.1 }⟩,0)
def rF (p:Tr) (l:LV) (done:Nat):List Bool->Option LV × Int
 |[]=>(some l,0)
 |b :: bs=>match nP p l done b with
  |(some l',_)=>rF p l' (done+1) bs
  |(none,e)=>(none,e)
def rP (p:Tr) (bs:List Bool):Option LV × Int:=rF p (L0 p) 0 bs
end Tk
end Go.Proofs.YtjcekdiocliddaaGreatDoor
namespace Go.Proofs.YtjcekdiocliddaaGreatDoor
namespace Tk
open Num Txt Pf
theorem Pe (l:List (Int × Int)) (t:Int):pN l t<=l.length:=by
 unfold pN;exact (List.takeWhile_prefix _).length_le
theorem Pc:∀ (l:List (Int × Int)) (t:Int),(∀ i (h:i<l.length),i<pN l t->l[i].1<t)/\(∀ h:pN l t<l.length,t<=(l[pN l t]).1)
 |[],t=>⟨fun i h=>absurd h (by simp),fun h=>absurd h (by simp)⟩
 |a :: l,t=>by
  obtain ⟨h1,h2⟩:=Pc l t;by_cases ha:a.1<t
  ·have e:pN (a :: l) t=pN l t+1:=by unfold pN;rw [List.takeWhile_cons_of_pos (by simpa using ha)];rfl
   refine ⟨fun i h hi=>?_,fun h=>?_⟩
   ·cases i with
    |zero=>exact ha
    |succ i=>exact h1 i (by simpa using h) (by omega)
   ·have h3:pN l t<l.length:=by rw [e] at h;simpa using h
    have h4:=h2 h3;have h5:(a :: l)[pN (a :: l) t]=l[pN l t]:=by simp only [e];rfl
    rw [h5];exact h4
  ·have e:pN (a :: l) t=0:=by unfold pN;rw [List.takeWhile_cons_of_neg (by simpa using ha)];rfl
   refine ⟨fun i h hi=>by omega,fun h=>?_⟩;have h5:(a :: l)[pN (a :: l) t]=a:=by simp only [e];rfl
   rw [h5];omega
theorem ptsN_of {l:List (Int × Int)} {t:Int} {i:Nat} (hi:i<=l.length) (h1:∀ j (h:j<l.length),j<i->l[j].1<t) (h2:∀ h:i<l.length,t<=l[i].1):pN l t=i:=by
 obtain ⟨h3,h4⟩:=Pc l t;have h5:=Pe l t;rcases Nat.lt_trichotomy (pN l t) i with h | h | h
 ·have:=h1 (pN l t) (by omega) h
  have:=h4 (by omega);omega
 ·exact h
 ·have:=h3 i (by omega) h
  have:=h2 (by omega);omega
theorem pts_lt {l:List (Int × Int)} (h:PO l):∀ (i j:Nat) (hi:i<l.length) (hj:j<l.length),i<j->l[i].1<l[j].1:=by
 intro i j hi hj hij
 induction j with
 |zero=>omega
 |succ j ih =>
  have h1:=(h.next j hj).1;rcases Nat.lt_or_ge i j with h2 | h2
  ·have:=ih (by omega) h2;omega
  ·have:i=j:=by omega
   subst this;exact h1
theorem Ay {a d w:Int} (hw:0<w) (ha:0<=a) (h:a<=w*d+w - 1):0<=a.tdiv w/\a.tdiv w<=d:=by
 rw [Int.tdiv_eq_ediv_of_nonneg ha];refine ⟨Int.ediv_nonneg ha (by omega),?_⟩;have h1:a / w<d+1:=Int.ediv_lt_of_lt_mul hw (by rw [Int.add_mul,Int.one_mul,Int.mul_comm d w];omega);omega
theorem arrT_bound {l:List (Int × Int)} (h:PO l) {t:Int} (ht:0<=t):0<=ar l t/\ar l t<=t+8192:=by
 obtain ⟨h1,h2⟩:=Pc l t;have h3:=Pe l t;unfold ar;simp only;generalize pN l t=i at *;rcases Nat.lt_or_ge i l.length with hi | hi
 ·rw [List.getElem?_eq_getElem hi]
  have hq:=h.each _ (List.getElem_mem hi);have hqt:=h2 hi;simp only;by_cases he:l[i].1=t
  ·rw [if_pos he];omega
  ·rw [if_neg he]
   by_cases h0:i=0
   ·rw [if_pos h0];omega
   ·rw [if_neg h0,List.getElem?_eq_getElem (show i - 1<l.length by omega)]
    have hp:=h.each _ (List.getElem_mem (show i - 1<l.length by omega));have hpt:=h1 (i - 1) (by omega) (by omega);have hn:=h.next (i - 1) (by omega);have e:i - 1+1=i:=by omega
    simp only [e] at hn;simp only;generalize l[i - 1]=p at *;generalize l[i]=q at *;have hw:0<q.1 - p.1:=by omega
    have ha:0<=(t - p.1)*(q.2 - p.2):=Int.mul_nonneg (by omega) (by omega);have hb:(t - p.1)*(q.2 - p.2)<=(q.1 - p.1)*(q.2 - p.2):=Int.mul_le_mul_of_nonneg_right (by omega) (by omega);obtain ⟨d1,d2⟩:=Ay (a:=(t - p.1)*(q.2 - p.2)+(q.1 - p.1) - 1) (d:=q.2 - p.2) hw (by omega) (by omega);omega
 ·rw [List.getElem?_eq_none hi]
  have hpos:=h.pos;have hp:=h.each _ (List.getElem_mem (show i - 1<l.length by omega));simp only;rw [List.getElem?_eq_getElem (show i - 1<l.length by omega)];simp only;omega
theorem Sd:∀ (l:List (Int × Int)) (t:Int),(∀ p ∈ l,iT p.2)->0<=SS l t/\SS l t<=4096*(l.length:Int)
 |[],t,_=>by simp [SS]
 |a :: l,t,h=>by
  obtain ⟨h1,h2⟩:=Sd l t fun p hp=>h p (by simp [hp]);have ha:=h a (by simp);unfold iT at ha;have e:SS (a :: l) t=(if a.1<=t then a.2 else 0)+SS l t:=by simp [SS]
  rw [e,List.length_cons];split <;> omega
theorem arrA_bound {a:ArcV} (h:AK a) {t:Int} (ht:0<=t):0<=Cq a t/\Cq a t<=t+80000:=by
 obtain ⟨h1,h2⟩:=arrT_bound h.trav ht;obtain ⟨h3,h4⟩:=Sd a.slow t fun p hp=>(h.slow.each p hp).2;have:=h.slow.len;unfold Cq;omega
theorem GP {x:IV} (h:IK x) (prof frm tgt:Int) {t:Int} (ht:0<=t):0<=(gP x prof frm tgt t).1/\(gP x prof frm tgt t).1<=t+80000/\0<=(gP x prof frm tgt t).2.1/\(gP x prof frm tgt t).2.1<=10000:=by
 unfold gP;split
 ·simp only;omega
 ·split
  ·simp only;omega
  ·cases hf:x.arcs.find? fun a=>a.frm == frm && a.tgt == tgt && a.prof == prof with
   |none=>simp only;omega
   |some a =>
    have ha:=h.arcs a (List.mem_of_find?_eq_some hf);obtain ⟨h1,h2⟩:=arrA_bound ha ht;have h3:=ha.miles;simp only;omega
def Cz (s:SV):List Bool:=s.rest :: s.times.map (·.rest)
structure TK (p:Tr):Prop where
 x:IK p.x
 t:TO p.t
 start:0<=p.r.start/\p.r.start<=4096
 stops:∀ s ∈ p.stops,SK s
 n:p.stops.length<=20
structure LabOK (p:Tr) (k:Nat) (cs:List Bool) (l:LV):Prop where
 kn:k<=p.stops.length+1
 len:cs.length=k
 times:l.sh.times.length=min k p.stops.length
 rests:∀ j,j<k->(Cz l.sh)[j]? = cs[j]?
 ready:0<=l.ready/\l.ready<=100000
 since:-1000000*(k:Int)<=l.since/\l.since<=4096
 miles:0<=l.sh.miles/\l.sh.miles<=10000*(k:Int)
theorem lab0_ok {p:Tr} (h:TK p):LabOK p 0 [] (L0 p):=by
 have h1:=h.t.opn;have h2:=h.t.cls;have h3:=h.start;refine ⟨by omega,rfl,by simp [L0],fun j hj=>by omega,?_,by simp [L0],by simp [L0]⟩;unfold L0;simp only;omega
theorem Sn (s:SV) (k:Nat) (b:Bool) (d:Int):(sD s k b d).times.length=s.times.length:=by
 unfold sD;split
 ·rfl
 ·simp
theorem SD (s:SV) (k:Nat) (b:Bool) (d:Int):(sD s k b d).miles=s.miles/\(sD s k b d).fin=s.fin:=by
 unfold sD;split <;> exact ⟨rfl,rfl⟩
theorem rg (s:SV) (j:Nat):(Cz s)[j]? = if j=0 then some s.rest else (s.times[j - 1]?).map (·.rest):=by
 unfold Cz
 cases j with
 |zero=>rfl
 |succ j=>rw [List.getElem?_cons_succ,if_neg (by omega),List.getElem?_map];rfl
theorem mG {α} (l:List α) (i j:Nat) (f:α->α):(l.modify i f)[j]? = if j=i then (l[j]?).map f else l[j]? := by
 rw [List.getElem?_modify];by_cases h:i=j
 ·subst h;simp
 ·rw [if_neg (fun e=>h e.symm)];simp [h]
theorem setDep_rsts (s:SV) (k:Nat) (b:Bool) (d:Int) (hk:k<=s.times.length) (j:Nat):(Cz (sD s k b d))[j]? = if j=k then some b else (Cz s)[j]? := by
 rw [rg,rg];unfold sD;by_cases h0:k=0
 ·subst h0
  rw [if_pos rfl];by_cases hj:j=0
  ·subst hj;simp
  ·rw [if_neg hj,if_neg hj,if_neg hj]
 ·rw [if_neg h0]
  by_cases hj:j=0
  ·subst hj;rw [if_pos rfl,if_neg (by omega)];simp
  ·rw [if_neg hj,if_neg hj]
   simp only [mG];by_cases hjk:j=k
   ·subst hjk
    rw [if_pos rfl,if_pos rfl,List.getElem?_eq_getElem (show j - 1<s.times.length by omega)];rfl
   ·rw [if_neg hjk,if_neg (by omega)]
theorem rsts_app (s:SV) (t:TI) (m:Int) (j:Nat) (hj:j<=s.times.length):(Cz { s with times:=s.times ++ [t],miles:=m })[j]? = (Cz s)[j]? := by
 rw [rg,rg];by_cases h0:j=0
 ·subst h0;rfl
 ·rw [if_neg h0,if_neg h0]
  show ((s.times ++ [t])[j - 1]?).map _=_
  rw [List.getElem?_append_left (by omega)]
theorem rsts_fin (s:SV) (f m:Int) (j:Nat):(Cz { s with fin:=f,miles:=m })[j]? = (Cz s)[j]? := by rw [rg,rg]
theorem snoc_get {cs:List Bool} {k:Nat} (h:cs.length=k) (b:Bool) (j:Nat) (hj:j<=k):(cs ++ [b])[j]? = if j=k then some b else cs[j]? := by
 by_cases e:j=k
 ·subst e;rw [if_pos rfl,List.getElem?_append_right (by omega),h];simp
 ·rw [if_neg e,List.getElem?_append_left (by omega)]
theorem Sl {s:St} (h:SK s):0<=s.opn/\s.opn<=s.cls/\s.cls<=4096/\0<=s.serv/\s.serv<=4096:=by
 rcases h.ok with h | h <;> omega
theorem next_ok {p:Tr} (h:TK p) {k:Nat} {cs:List Bool} {l l':LV} {b:Bool} {e:Int} (hl:LabOK p k cs l) (hk:k<=p.stops.length) (hn:nP p l k b=(some l',e)):LabOK p (k+1) (cs ++ [b]) l':=by
 have hr:=hl.ready;have hs:=hl.since;have hm:=hl.miles;have ht:=hl.times;have h1:=h.t.opn;have h2:=h.t.cls;have h3:=h.t.drive;have h4:=h.t.rest;have hdep:0<=l.ready+(if b then p.t.rest else 0)/\l.ready+(if b then p.t.rest else 0)<=104096:=by split <;> omega
 have hsn:-1000000*(k:Int)<=(if b then 0 else l.since):=by split <;> omega
 have hkt:k<=l.sh.times.length:=by rw [ht];omega
 have hrs:=setDep_rsts l.sh k b (l.ready+if b then p.t.rest else 0) hkt;have hlen:=Sn l.sh k b (l.ready+if b then p.t.rest else 0);obtain ⟨hmi,_⟩:=SD l.sh k b (l.ready+if b then p.t.rest else 0)
 have hall:∀ j,j<k+1->(Cz (sD l.sh k b (l.ready+if b then p.t.rest else 0)))[j]? = (cs ++ [b])[j]? := fun j hj=>by
  rw [hrs,snoc_get hl.len b j (by omega)];by_cases e:j=k
  ·rw [if_pos e,if_pos e]
  ·rw [if_neg e,if_neg e];exact hl.rests j (by omega)
 unfold nP at hn;simp only at hn;generalize l.ready+(if b then p.t.rest else 0)=dep at *;generalize (if b then 0 else l.since)=sn at *;generalize sD l.sh k b dep=sh at *
 cases hst:p.stops[k]? with
 |none =>
  rw [hst] at hn;simp only at hn;have hkn:k=p.stops.length:=by have:=List.getElem?_eq_none_iff.1 hst;omega
  have hg:=GP h.x p.t.prof (pP p k) p.t.tgt hdep.1;generalize gP p.x p.t.prof (pP p k) p.t.tgt dep=g at *;split at hn
  ·cases hn
  split at hn
  ·cases hn
  split at hn
  ·cases hn
  injection hn with hn _
  injection hn with hn
  subst hn;refine ⟨by omega,by rw [List.length_append,hl.len];rfl,?_,fun j hj=>?_,?_,?_,?_⟩
  ·show sh.times.length=_
   rw [hlen,ht];omega
  ·show (Cz { sh with fin:=g.1,miles:=sh.miles+g.2.1 })[j]? = _
   rw [rsts_fin];exact hall j hj
  ·simp only;omega
  ·simp only
   refine ⟨?_,by omega⟩;have:((k+1:Nat):Int)=(k:Int)+1:=by omega
   rw [this];omega
  ·simp only
   rw [hmi];have:((k+1:Nat):Int)=(k:Int)+1:=by omega
   rw [this];omega
 |some s =>
  rw [hst] at hn;simp only at hn;obtain ⟨hkl,hse⟩:=List.getElem?_eq_some_iff.1 hst;have hso:=Sl (h.stops s (by rw [<- hse];exact List.getElem_mem hkl));have hg:=GP h.x p.t.prof (pP p k) s.place hdep.1;generalize gP p.x p.t.prof (pP p k) s.place dep=g at *;split at hn
  ·cases hn
  split at hn
  ·cases hn
  split at hn
  ·cases hn
  injection hn with hn _
  injection hn with hn
  subst hn;refine ⟨by omega,by rw [List.length_append,hl.len];rfl,?_,fun j hj=>?_,?_,?_,?_⟩
  ·show (sh.times ++ [_]).length=_
   rw [List.length_append,hlen,ht];show min k p.stops.length+1=_
   omega
  ·show (Cz { sh with times:=sh.times ++ [_],miles:=_ })[j]? = _
   rw [rsts_app _ _ _ _ (by rw [hlen,ht];omega)];exact hall j hj
  ·simp only;omega
  ·simp only
   refine ⟨?_,by omega⟩;have:((k+1:Nat):Int)=(k:Int)+1:=by omega
   rw [this];omega
  ·simp only
   rw [hmi];have:((k+1:Nat):Int)=(k:Int)+1:=by omega
   rw [this];omega
theorem Rc (p:Tr):∀ (bs:List Bool) (l:LV) (k:Nat) (b:Bool),rF p l k (bs ++ [b])=match rF p l k bs with
  |(some l',_)=>(match nP p l' (k+bs.length) b with
   |(some l2,_)=>(some l2,0)
   |(none,e)=>(none,e))
  |(none,e)=>(none,e)
 |[],l,k,b=>by
  show (match nP p l k b with | (some l',_)=>rF p l' (k+1) [] | (none,e)=>(none,e))=_
  cases hn:nP p l k b with
  |mk o e =>
   cases o with
   |none=>simp [rF,hn]
   |some l2=>simp [rF,hn]
 |c :: bs,l,k,b=>by
  show (match nP p l k c with | (some l',_)=>rF p l' (k+1) (bs ++ [b]) | (none,e)=>(none,e))=_
  cases hn:nP p l k c with
  |mk o e =>
   cases o with
   |none=>simp [rF,hn]
   |some l2 =>
    simp only;rw [Rc p bs l2 (k+1) b];have e1:rF p l k (c :: bs)=rF p l2 (k+1) bs:=by simp [rF,hn]
    rw [e1];have e2:k+1+bs.length=k+(c :: bs).length:=by rw [List.length_cons];omega
    rw [e2]
theorem run_ok {p:Tr} (h:TK p):∀ (n:Nat) (cs:List Bool) (l:LV) (e:Int),cs.length=n->n<=p.stops.length+1->rP p cs=(some l,e)->LabOK p n cs l:=by
 intro n
 induction n with
 |zero =>
  intro cs l e hc hn hr;have:cs=[]:=List.length_eq_zero_iff.1 hc;subst this;unfold rP at hr;rw [rF] at hr;injection hr with hr _
  injection hr with hr
  subst hr;exact lab0_ok h
 |succ n ih =>
  intro cs l e hc hn hr;obtain ⟨ds,b,rfl⟩:∃ ds b,cs=ds ++ [b]:=⟨cs.dropLast,cs.getLast (by intro e;rw [e] at hc;cases hc),(List.dropLast_concat_getLast _).symm⟩
  have hd:ds.length=n:=by rw [List.length_append] at hc;simpa using hc
  unfold rP at hr;rw [Rc] at hr
  cases hq:rF p (L0 p) 0 ds with
  |mk o e1 =>
   rw [hq] at hr
   cases o with
   |none=>simp at hr
   |some l1 =>
    simp only at hr;have h1:=ih ds l1 e1 hd (by omega) hq;rw [Nat.zero_add,hd] at hr
    cases hx:nP p l1 n b with
    |mk o2 e2 =>
     rw [hx] at hr
     cases o2 with
     |none=>simp at hr
     |some l2 =>
      simp only at hr;injection hr with hr _
      injection hr with hr
      subst hr;exact next_ok h h1 (by omega) hx
end Tk
end Go.Proofs.YtjcekdiocliddaaGreatDoor
namespace Go.Proofs.YtjcekdiocliddaaGreatDoor
namespace Tk
open Num Txt Pf
def dA (s:SV) (i:Nat):Int:=if i=0 then s.dep else match s.times[i - 1]? with
 |some t=>t.dep
 |none=>0
def rt (s:SV) (i:Nat):Bool:=if i=0 then s.rest else match s.times[i - 1]? with
 |some t=>t.rest
 |none=>false
def At (s:SV) (i:Nat):Int:=match s.times[i]? with
 |some t=>t.arr
 |none=>s.fin
def sA (s:SV):Nat->Int
 |0=>At s 0 - dA s 0
 |i+1=>(if rt s (i+1) then 0 else sA s i)+At s (i+1) - dA s (i+1)
def EP (p:Tr) (k:Nat):Int:=match p.stops[k]? with
 |some s=>s.place
 |none=>p.t.tgt
structure LegsOK (p:Tr) (k:Nat) (s:SV):Prop where
 go:∀ i,i<k->∃ m,gP p.x p.t.prof (pP p i) (EP p i) (dA s i)=(At s i,m,0)
 drive:∀ i,i<k->sA s i<=p.t.drive
 beg:∀ i (h:i<p.stops.length),i<k->∃ t,s.times[i]? = some t/\t.beg=max t.arr p.stops[i].opn/\t.beg<=p.stops[i].cls
 first:0<k->s.dep=max p.t.opn p.r.start+if s.rest then p.t.rest else 0
 dep:∀ i (h:i<p.stops.length),i+1<k->∃ t,s.times[i]? = some t/\t.dep=t.beg+p.stops[i].serv+if t.rest then p.t.rest else 0
 last:k=p.stops.length+1->s.fin<=p.t.cls
structure LabL (p:Tr) (k:Nat) (l:LV):Prop where
 legs:LegsOK p k l.sh
 len:l.sh.times.length=min k p.stops.length
 ready:l.ready=if k=0 then max p.t.opn p.r.start else match p.stops[k - 1]?,l.sh.times[k - 1]? with
  |some st,some t=>t.beg+st.serv
  |_,_=>l.sh.fin
 since:l.since=if k=0 then 0 else sA l.sh (k - 1)
theorem labL0 (p:Tr):LabL p 0 (L0 p):=⟨⟨fun i h=>by omega,fun i h=>by omega,fun i _ h=>by omega,fun h=>by omega,fun i _ h=>by omega,fun h=>by omega⟩,by simp [L0],rfl,rfl⟩
section
variable (s:SV) (k:Nat) (b:Bool) (d:Int)
theorem Ss (j:Nat) (hj:j+1≠k):(sD s k b d).times[j]? = s.times[j]? := by
 unfold sD;split
 ·rfl
 ·simp only [mG]
  rw [if_neg (by omega)]
theorem setDep_at (h:k<=s.times.length):dA (sD s k b d) k=d/\rt (sD s k b d) k=b:=by
 unfold dA rt sD;by_cases h0:k=0
 ·simp [h0]
 ·simp only [if_neg h0,mG,if_true]
  rw [List.getElem?_eq_getElem (show k - 1<s.times.length by omega)];exact ⟨rfl,rfl⟩
theorem setDep_off (j:Nat) (hj:j≠k):dA (sD s k b d) j=dA s j/\rt (sD s k b d) j=rt s j:=by
 unfold dA rt;by_cases h0:j=0
 ·rw [if_pos h0,if_pos h0,if_pos h0,if_pos h0]
  unfold sD;rw [if_neg (by omega)];exact ⟨rfl,rfl⟩
 ·rw [if_neg h0,if_neg h0,if_neg h0,if_neg h0,Ss _ _ _ _ _ (by omega)]
  exact ⟨rfl,rfl⟩
theorem setDep_arr (j:Nat):At (sD s k b d) j=At s j:=by
 unfold At;by_cases hj:j+1=k
 ·have h1:(sD s k b d).times[j]? = (s.times[j]?).map fun t=>{ t with rest:=b,dep:=d }:=by
   unfold sD;rw [if_neg (by omega)];simp only [mG];rw [if_pos (by omega)]
  rw [h1]
  cases s.times[j]? with
  |none=>simp only [Option.map_none];exact (SD s k b d).2
  |some t=>rfl
 ·rw [Ss _ _ _ _ _ hj,(SD s k b d).2]
end
theorem Sg {s s':SV}:∀ (i:Nat),(∀ j,j<=i->At s' j=At s j/\dA s' j=dA s j/\rt s' j=rt s j)->sA s' i=sA s i
 |0,h=>by rw [sA,sA,(h 0 (by omega)).1,(h 0 (by omega)).2.1]
 |i+1,h=>by
  rw [sA,sA,(h (i+1) (by omega)).1,(h (i+1) (by omega)).2.1,(h (i+1) (by omega)).2.2,Sg i fun j hj=>h j (by omega)]
structure StepS (s s':SV) (k:Nat) (b:Bool) (d a:Int):Prop where
 arr:∀ j,j<k->At s' j=At s j
 dep:∀ j,j<k->dA s' j=dA s j/\rt s' j=rt s j
 at_:dA s' k=d/\rt s' k=b/\At s' k=a
 old:∀ j t,j<k->s.times[j]? = some t->s'.times[j]? = some (if j+1=k then { t with rest:=b,dep:=d } else t)
 first:s'.dep=(if k=0 then d else s.dep)/\s'.rest=(if k=0 then b else s.rest)
theorem Bz (s:SV) (k:Nat) (b:Bool) (d:Int):(sD s k b d).dep=(if k=0 then d else s.dep)/\(sD s k b d).rest=(if k=0 then b else s.rest):=by
 unfold sD;split <;> exact ⟨rfl,rfl⟩
theorem setDep_old (s:SV) (k:Nat) (b:Bool) (d:Int) (j:Nat) (t:TI) (h:s.times[j]? = some t):(sD s k b d).times[j]? = some (if j+1=k then { t with rest:=b,dep:=d } else t):=by
 by_cases hj:j+1=k
 ·rw [if_pos hj]
  unfold sD;rw [if_neg (by omega)];simp only [mG];rw [if_pos (by omega),h];rfl
 ·rw [if_neg hj,Ss _ _ _ _ _ hj,h]
theorem stepS_mid {s:SV} {k:Nat} (hk:s.times.length=k) (b:Bool) (d a g m:Int):StepS s { sD s k b d with times:=(sD s k b d).times ++ [⟨a,g,0,false⟩],miles:=m } k b d a:=by
 have hl:=Sn s k b d;have ht:∀ j,j<k->((sD s k b d).times ++ [(⟨a,g,0,false⟩:TI)])[j]? = (sD s k b d).times[j]? := fun j hj=>List.getElem?_append_left (by omega)
 have hdp:∀ j,j<=k->dA { sD s k b d with times:=(sD s k b d).times ++ [⟨a,g,0,false⟩],miles:=m } j=dA (sD s k b d) j/\rt { sD s k b d with times:=(sD s k b d).times ++ [⟨a,g,0,false⟩],miles:=m } j=rt (sD s k b d) j:=fun j hj=>by
  unfold dA rt;by_cases h0:j=0
  ·rw [if_pos h0,if_pos h0,if_pos h0,if_pos h0];exact ⟨rfl,rfl⟩
  ·rw [if_neg h0,if_neg h0,if_neg h0,if_neg h0]
   constructor <;> simp only [ht (j - 1) (by omega)]
 obtain ⟨k1,k2⟩:=setDep_at s k b d (by omega);refine ⟨fun j hj=>?_,fun j hj=>?_,⟨(hdp k (Nat.le_refl _)).1.trans k1,(hdp k (Nat.le_refl _)).2.trans k2,?_⟩,fun j t hj h=>?_,Bz s k b d⟩
 ·rw [<- setDep_arr s k b d j]
  unfold At;simp only [ht j hj]
 ·rw [(hdp j (by omega)).1,(hdp j (by omega)).2]
  exact setDep_off s k b d j (by omega)
 ·unfold At
  simp only;rw [List.getElem?_append_right (by omega),hl,hk,Nat.sub_self];rfl
 ·simp only [ht j hj]
  exact setDep_old s k b d j t h
theorem stepS_end {s:SV} {k:Nat} (hk:s.times.length=k) (b:Bool) (d a m:Int):StepS s { sD s k b d with fin:=a,miles:=m } k b d a:=by
 have hl:=Sn s k b d;obtain ⟨k1,k2⟩:=setDep_at s k b d (by omega);refine ⟨fun j hj=>?_,fun j hj=>setDep_off s k b d j (by omega),⟨k1,k2,?_⟩,fun j t hj h=>setDep_old s k b d j t h,Bz s k b d⟩
 ·rw [<- setDep_arr s k b d j]
  unfold At;simp only;rw [List.getElem?_eq_getElem (show j<(sD s k b d).times.length by omega)]
 ·unfold At
  simp only;rw [List.getElem?_eq_none (by omega)]
theorem legs_step {p:Tr} {k:Nat} {l:LV} {s':SV} {b:Bool} {d a m sn:Int} (h:LabL p k l) (hk:k<=p.stops.length) (hs:StepS l.sh s' k b d a) (hd:d=l.ready+if b then p.t.rest else 0) (hsn:sn=(if b then 0 else l.since)+a - d)
  (hgo:gP p.x p.t.prof (pP p k) (EP p k) d=(a,m,0)) (hdr:sn<=p.t.drive) (hbeg:∀ h:k<p.stops.length,∃ t,s'.times[k]? = some t/\t.beg=max t.arr p.stops[k].opn/\t.beg<=p.stops[k].cls) (hlast:k=p.stops.length->s'.fin<=p.t.cls) :
  LegsOK p (k+1) s'/\sA s' k=sn:=by
 have hlt:l.sh.times.length=k:=by rw [h.len];omega
 have hsin:∀ i,i<k->sA s' i=sA l.sh i:=fun i hi=>Sg i fun j hj=>⟨hs.arr j (by omega),(hs.dep j (by omega)).1,(hs.dep j (by omega)).2⟩
 have hsk:sA s' k=sn:=by
  have hls:=h.since
  cases k with
  |zero =>
   rw [if_pos rfl] at hls;rw [sA,hs.at_.2.2,hs.at_.1,hsn,hls];cases b <;> simp
  |succ i =>
   rw [if_neg (by omega),show i+1 - 1=i by omega] at hls;rw [sA,hs.at_.2.2,hs.at_.1,hs.at_.2.1,hsin i (by omega),hsn,hls]
 have htk:∀ i,i<k->∃ t,l.sh.times[i]? = some t:=fun i hi=>⟨_,List.getElem?_eq_getElem (by omega)⟩
 refine ⟨⟨fun i hi=>?_,fun i hi=>?_,fun i h2 hi=>?_,fun _=>?_,fun i h2 hi=>?_,fun e=>hlast (by omega)⟩,hsk⟩
 ·by_cases hik:i=k
  ·subst hik;rw [hs.at_.1,hs.at_.2.2];exact ⟨m,hgo⟩
  ·obtain ⟨m',hm⟩:=h.legs.go i (by omega)
   rw [(hs.dep i (by omega)).1,hs.arr i (by omega)];exact ⟨m',hm⟩
 ·by_cases hik:i=k
  ·subst hik;rw [hsk];exact hdr
  ·rw [hsin i (by omega)];exact h.legs.drive i (by omega)
 ·by_cases hik:i=k
  ·subst hik;exact hbeg h2
  ·obtain ⟨t,ht,hb1,hb2⟩:=h.legs.beg i h2 (by omega)
   refine ⟨_,hs.old i t (by omega) ht,?_⟩;split <;> exact ⟨hb1,hb2⟩
 ·rw [hs.first.1,hs.first.2]
  by_cases h0:k=0
  ·rw [if_pos h0,if_pos h0,hd,h.ready,if_pos h0]
  ·rw [if_neg h0,if_neg h0];exact h.legs.first (by omega)
 ·by_cases hik:i+1=k
  ·obtain ⟨t,ht⟩:=htk i (by omega)
   have hr:=h.ready;have e:k - 1=i:=by omega
   rw [if_neg (by omega),e,List.getElem?_eq_getElem h2,ht] at hr;refine ⟨_,hs.old i t (by omega) ht,?_⟩;rw [if_pos hik];simp only at hr ⊢;rw [hd,hr]
  ·obtain ⟨t,ht,hdd⟩:=h.legs.dep i h2 (by omega)
   refine ⟨_,hs.old i t (by omega) ht,?_⟩;rw [if_neg hik];exact hdd
theorem next_L {p:Tr} {k:Nat} {l l':LV} {b:Bool} {e:Int} (h:LabL p k l) (hk:k<=p.stops.length) (hn:nP p l k b=(some l',e)):LabL p (k+1) l':=by
 have hlt:l.sh.times.length=k:=by rw [h.len];omega
 unfold nP at hn;simp only at hn;generalize hd:l.ready+(if b then p.t.rest else 0)=d at *;generalize hsn:(if b then (0:Int) else l.since)=sn0 at *
 cases hst:p.stops[k]? with
 |none =>
  rw [hst] at hn;simp only at hn;have hkn:k=p.stops.length:=by have:=List.getElem?_eq_none_iff.1 hst;omega
  have hend:EP p k=p.t.tgt:=by unfold EP;rw [hst]
  cases hg:gP p.x p.t.prof (pP p k) p.t.tgt d with
  |mk a mz =>
   obtain ⟨m,z⟩:=mz;rw [hg] at hn;simp only at hn;split at hn
   ·cases hn
   rename_i hz;split at hn
   ·cases hn
   rename_i hc;split at hn
   ·cases hn
   rename_i hdr;injection hn with hn _
   injection hn with hn
   subst hn;have hz:z=0:=Classical.byContradiction hz;subst hz;obtain ⟨h1,h2⟩:=legs_step (m:=m) (sn:=sn0+a - d) h hk (stepS_end hlt b d a ((sD l.sh k b d).miles+m)) hd.symm (by rw [hsn]) (by rw [hend];exact hg) (by omega) (fun h=>by omega) (fun _=>by simp only;omega);refine ⟨h1,?_,?_,?_⟩
   ·simp only
    rw [Sn,hlt];omega
   ·simp only
    rw [if_neg (by omega),show k+1 - 1=k by omega,hst]
   ·simp only
    rw [if_neg (by omega),show k+1 - 1=k by omega,h2]
 |some st =>
  rw [hst] at hn;simp only at hn;obtain ⟨hkl,hse⟩:=List.getElem?_eq_some_iff.1 hst;have hend:EP p k=st.place:=by unfold EP;rw [hst]
  cases hg:gP p.x p.t.prof (pP p k) st.place d with
  |mk a mz =>
   obtain ⟨m,z⟩:=mz;rw [hg] at hn;simp only at hn;split at hn
   ·cases hn
   rename_i hz;split at hn
   ·cases hn
   rename_i hc;split at hn
   ·cases hn
   rename_i hdr;injection hn with hn _
   injection hn with hn
   subst hn;have hz:z=0:=Classical.byContradiction hz;subst hz
   have htk:((sD l.sh k b d).times ++ [(⟨a,max a st.opn,0,false⟩:TI)])[k]? = some ⟨a,max a st.opn,0,false⟩:=by
    rw [List.getElem?_append_right (by rw [Sn];omega),Sn,hlt,Nat.sub_self];rfl
   obtain ⟨h1,h2⟩:=legs_step (m:=m) (sn:=sn0+a - d) h hk (stepS_mid hlt b d a (max a st.opn) ((sD l.sh k b d).miles+m)) hd.symm (by rw [hsn]) (by rw [hend];exact hg) (by omega) (fun h=>⟨_,htk,by simp only;rw [hse],by simp only;rw [hse];omega⟩) (fun h=>by omega);refine ⟨h1,?_,?_,?_⟩
   ·simp only
    rw [List.length_append,Sn,hlt];show k+1=_
    omega
   ·simp only
    rw [if_neg (by omega),show k+1 - 1=k by omega,hst,htk]
   ·simp only
    rw [if_neg (by omega),show k+1 - 1=k by omega,h2]
theorem run_L {p:Tr}:∀ (n:Nat) (cs:List Bool) (l:LV) (e:Int),cs.length=n->n<=p.stops.length+1->rP p cs=(some l,e)->LabL p n l:=by
 intro n
 induction n with
 |zero =>
  intro cs l e hc hn hr;have:cs=[]:=List.length_eq_zero_iff.1 hc;subst this;unfold rP at hr;rw [rF] at hr;injection hr with hr _
  injection hr with hr
  subst hr;exact labL0 p
 |succ n ih =>
  intro cs l e hc hn hr;obtain ⟨ds,b,rfl⟩:∃ ds b,cs=ds ++ [b]:=⟨cs.dropLast,cs.getLast (by intro e;rw [e] at hc;cases hc),(List.dropLast_concat_getLast _).symm⟩
  have hd:ds.length=n:=by rw [List.length_append] at hc;simpa using hc
  unfold rP at hr;rw [Rc] at hr
  cases hq:rF p (L0 p) 0 ds with
  |mk o e1 =>
   rw [hq] at hr
   cases o with
   |none=>simp at hr
   |some l1 =>
    simp only at hr;have h1:=ih ds l1 e1 hd (by omega) hq;rw [Nat.zero_add,hd] at hr
    cases hx:nP p l1 n b with
    |mk o2 e2 =>
     rw [hx] at hr
     cases o2 with
     |none=>simp at hr
     |some l2 =>
      simp only at hr;injection hr with hr _
      injection hr with hr
      subst hr;exact next_L h1 (by omega) hx
end Tk
end Go.Proofs.YtjcekdiocliddaaGreatDoor
namespace Go.Proofs.YtjcekdiocliddaaGreatDoor
namespace Tk
open Num Txt Pf
def sO (x:IV) (v:Int × Bool):Option St :=
 if v.1<0 then none else match x.ords[v.1.toNat]? with
 |some o=>if (if v.2 then o.drop else o.pick).place<0 then none else some (if v.2 then o.drop else o.pick)
 |none=>none
def SO (x:IV):List (Int × Bool)->Option (List St)
 |[]=>some []
 |v :: vs=>match sO x v with
  |none=>none
  |some s=>match SO x vs with
   |none=>none
   |some l=>some (s :: l)
theorem Bu (x:IV):∀ (vs:List (Int × Bool)) (v:Int × Bool) (l:List St) (s:St),SO x vs=some l->sO x v=some s->SO x (vs ++ [v])=some (l ++ [s])
 |[],v,l,s,h,h1=>by
  rw [SO] at h;injection h with h
  subst h;rw [List.nil_append,SO,h1];rfl
 |u :: vs,v,l,s,h,h1=>by
  rw [SO] at h
  cases h2:sO x u with
  |none=>rw [h2] at h;cases h
  |some a =>
   rw [h2] at h;simp only at h
   cases h3:SO x vs with
   |none=>rw [h3] at h;cases h
   |some m =>
    rw [h3] at h;injection h with h
    subst h;rw [List.cons_append,SO,h2];simp only;rw [Bu x vs v m s h3 h1];rfl
theorem Ct (x:IV):∀ (vs:List (Int × Bool)) (l:List St),SO x vs=some l->l.length=vs.length
 |[],l,h=>by rw [SO] at h;injection h with h;subst h;rfl
 |u :: vs,l,h=>by
  rw [SO] at h
  cases h2:sO x u with
  |none=>rw [h2] at h;cases h
  |some a =>
   rw [h2] at h;simp only at h
   cases h3:SO x vs with
   |none=>rw [h3] at h;cases h
   |some m =>
    rw [h3] at h;injection h with h
    subst h;rw [List.length_cons,List.length_cons,Ct x vs m h3]
theorem Ak (x:IV):∀ (vs:List (Int × Bool)) (l:List St) (i:Nat) (hi:i<vs.length) (hl:i<l.length),SO x vs=some l->sO x vs[i]=some l[i]
 |[],l,i,hi,_,_=>absurd hi (by simp)
 |u :: vs,l,i,hi,hl,h=>by
  rw [SO] at h
  cases h2:sO x u with
  |none=>rw [h2] at h;cases h
  |some a =>
   rw [h2] at h;simp only at h
   cases h3:SO x vs with
   |none=>rw [h3] at h;cases h
   |some m =>
    rw [h3] at h;injection h with h
    subst h
    cases i with
    |zero=>exact h2
    |succ i=>exact Ak x vs m i (by simpa using hi) (by simpa using hl) h3
theorem so {x:IV} (h:IK x) {v:Int × Bool} {s:St} (hs:sO x v=some s):SK s/\0<=s.place:=by
 unfold sO at hs;split at hs
 ·cases hs
 ·cases ho:x.ords[v.1.toNat]? with
  |none=>rw [ho] at hs;cases hs
  |some o =>
   rw [ho] at hs;simp only at hs;have h1:=h.ords o (List.mem_of_getElem? ho);by_cases hp:(if v.2 then o.drop else o.pick).place<0
   ·rw [if_pos hp] at hs;cases hs
   ·rw [if_neg hp] at hs
    injection hs with hs
    subst hs;refine ⟨?_,by omega⟩;split
    ·exact h1.2
    ·exact h1.1
structure PlanIs (X:IV) (R:RV) (p:Tr):Prop where
 x:p.x=X
 r:p.r=R
 k0:0<=R.kind
 t:X.types[R.kind.toNat]? = some p.t
 stops:SO X R.vis=some p.stops
 start:0<=R.start/\R.start<=4096
 n:R.vis.length<=20
theorem PlanIs.len {x:IV} {r:RV} {p:Tr} (h:PlanIs x r p):p.stops.length=r.vis.length:=Ct x _ _ h.stops
theorem PlanIs.ok {x:IV} {r:RV} {p:Tr} (h:PlanIs x r p) (hx:IK x):TK p:=by
 refine ⟨by rw [h.x];exact hx,hx.types _ (List.mem_of_getElem? h.t),by rw [h.r];exact h.start,fun s hs=>?_,by rw [h.len];exact h.n⟩;obtain ⟨i,hi,rfl⟩:=List.getElem_of_mem hs;exact (so hx (Ak x _ _ i (by rw [<- h.len];exact hi) hi h.stops)).1
theorem PlanIs.one {x:IV} {r:RV} {p q:Tr} (h:PlanIs x r p) (h2:PlanIs x r q):p=q:=by
 obtain ⟨px,pt,pr,ps⟩:=p;obtain ⟨qx,qt,qr,qs⟩:=q;have e1:px=qx:=h.x.trans h2.x.symm;have e2:pr=qr:=h.r.trans h2.r.symm;have e3:pt=qt:=by have:=h.t.symm.trans h2.t;injection this
 have e4:ps=qs:=by have:=h.stops.symm.trans h2.stops;injection this
 subst e1 e2 e3 e4;rfl
structure BE (p:Tr) (s:SV):Prop where
 run:∃ cs m,cs.length=p.stops.length+1/\rP p cs=(some m,0)/\m.sh=s/\p.r.rests.length<=cs.length/\cs.take p.r.rests.length=p.r.rests
theorem BE.legs {p:Tr} {s:SV} (h:BE p s):LegsOK p (p.stops.length+1) s/\s.times.length=p.stops.length:=by
 obtain ⟨cs,m,hc,hr,rfl,_,_⟩:=h.run;have:=run_L _ cs m 0 hc (Nat.le_refl _) hr;exact ⟨this.legs,by rw [this.len];omega⟩
structure SmallS (p:Tr) (s:SV):Prop where
 len:s.times.length=p.stops.length
 dep0:0<=s.dep/\s.dep<=20000
 each:∀ t ∈ s.times,(0<=t.arr/\t.arr<=4096)/\(0<=t.beg/\t.beg<=4096)/\(0<=t.dep/\t.dep<=20000)
 fin:0<=s.fin/\s.fin<=4096
theorem small_of {p:Tr} {s:SV} (hp:TK p) (h:LegsOK p (p.stops.length+1) s) (hl:s.times.length=p.stops.length):SmallS p s:=by
 have h1:=hp.t.opn;have h2:=hp.t.cls;have h3:=hp.start;have h4:=hp.t.rest;have hd:=h.first (by omega);have hd0:0<=s.dep/\s.dep<=20000:=by rw [hd];split <;> omega
 have hdep:∀ i (hi:i<s.times.length),0<=s.times[i].beg/\s.times[i].beg<=4096/\0<=s.times[i].dep/\s.times[i].dep<=20000/\s.times[i].arr<=4096:=by
  intro i hi;obtain ⟨t,ht,hb1,hb2⟩:=h.beg i (by omega) (by omega);obtain ⟨t2,ht2,hd2⟩:=h.dep i (by omega) (by omega);rw [List.getElem?_eq_getElem hi] at ht ht2;injection ht with ht
  injection ht2 with ht2
  subst ht ht2;have:=Sl (hp.stops _ (List.getElem_mem (show i<p.stops.length by omega)));have e:(if s.times[i].rest=true then p.t.rest else 0)=0∨(if s.times[i].rest=true then p.t.rest else 0)=p.t.rest:=by split <;> simp
  omega
 have hda:∀ i,i<=p.stops.length->0<=dA s i:=by
  intro i hi;unfold dA;by_cases h0:i=0
  ·rw [if_pos h0];exact hd0.1
  ·rw [if_neg h0,List.getElem?_eq_getElem (show i - 1<s.times.length by omega)]
   exact (hdep (i - 1) (by omega)).2.2.1
 have haa:∀ i,i<=p.stops.length->0<=At s i:=by
  intro i hi;obtain ⟨m,hg⟩:=h.go i (by omega);have:=(GP hp.x p.t.prof (pP p i) (EP p i) (hda i hi)).1;rw [hg] at this;exact this
 refine ⟨hl,hd0,fun t ht=>?_,?_⟩
 ·obtain ⟨i,hi,rfl⟩:=List.getElem_of_mem ht
  have h5:=haa i (by omega);unfold At at h5;rw [List.getElem?_eq_getElem hi] at h5;simp only at h5;have:=hdep i hi;omega
 ·have h5:=haa p.stops.length (Nat.le_refl _)
  unfold At at h5;rw [List.getElem?_eq_none (by omega)] at h5;exact ⟨h5,by have:=h.last rfl;omega⟩
def Grown (p:Tr) (k:Nat) (l:LV):Prop:=∃ cs,cs.length=k/\(∀ j,j<k->j<p.r.rests.length->cs[j]? = p.r.rests[j]?)/\rP p cs=(some l,0)
theorem grown0 (p:Tr):Grown p 0 (L0 p):=⟨[],rfl,fun j h=>by omega,rfl⟩
theorem Grown.next {p:Tr} {k:Nat} {l l':LV} {b:Bool} (h:Grown p k l) (hb:k<p.r.rests.length->p.r.rests[k]? = some b) (hn:nP p l k b=(some l',0)):Grown p (k+1) l':=by
 obtain ⟨cs,hc,hr,hrun⟩:=h;refine ⟨cs ++ [b],by rw [List.length_append,hc];rfl,fun j hj hjr=>?_,?_⟩
 ·rw [snoc_get hc b j (by omega)]
  by_cases e:j=k
  ·subst e;rw [if_pos rfl];exact (hb hjr).symm
  ·rw [if_neg e];exact hr j (by omega) hjr
 ·unfold rP at hrun ⊢
  rw [Rc,hrun];simp only;rw [Nat.zero_add,hc,hn]
theorem Grown.ok {p:Tr} {k:Nat} {l:LV} (hp:TK p) (hk:k<=p.stops.length+1) (h:Grown p k l):∃ cs,LabOK p k cs l:=by
 obtain ⟨cs,hc,_,hrun⟩:=h;exact ⟨cs,run_ok hp k cs l 0 hc hk hrun⟩
theorem Grown.best {p:Tr} {l:LV} (h:Grown p (p.stops.length+1) l) (hr:p.r.rests.length<=p.stops.length+1):BE p l.sh:=by
 obtain ⟨cs,hc,h1,hrun⟩:=h;refine ⟨cs,l,hc,hrun,rfl,by omega,List.ext_getElem? fun j=>?_⟩;by_cases hj:j<p.r.rests.length
 ·rw [List.getElem?_take,if_pos hj,h1 j (by omega) hj]
 ·rw [List.getElem?_eq_none (by rw [List.length_take];omega),List.getElem?_eq_none (by omega)]
end Tk
end Go.Proofs.YtjcekdiocliddaaGreatDoor
namespace Go.Proofs.YtjcekdiocliddaaGreatDoor
namespace Tk
open Num Txt Pf
def OA (x:IV) (i:Int):Option OrdV:=if i<0 then none else x.ords[i.toNat]?
def vO (x:IV) (i:Int):List (Int × Bool):=match OA x i with
 |none=>[]
 |some o=>(if 0<=o.pick.place then [(i,false)] else []) ++ (if 0<=o.drop.place then [(i,true)] else [])
def oO (x:IV) (i:Int):Bool:=match OA x i with
 |none=>false
 |some o=>o.off
def inOrds (x:IV) (i:Int):Bool:=decide (0<=i) && decide (i<(x.ords.length:Int))
def IZ {α:Type} (p:α->Bool) (l:List α):Int:=match l.findIdx? p with
 |some k=>(k:Int)
 |none=>-1
theorem It {α:Type} {p:α->Bool}:∀ {l:List α} {k:Nat} (hk:k<l.length),(∀ j (h:j<l.length),j<k->p l[j]=false)->p l[k]=true->IZ p l=(k:Int):=by
 intro l k hk h1 h2;have:l.findIdx? p=some k:=List.findIdx?_eq_some_iff_getElem.2 ⟨hk,h2,fun j hj=>by rw [h1 j (by omega) hj];simp⟩;unfold IZ;rw [this]
theorem io {α:Type} {p:α->Bool} {l:List α} (h1:∀ j (h:j<l.length),p l[j]=false):IZ p l = -1:=by
 have:l.findIdx? p=none:=List.findIdx?_eq_none_iff.2 fun x hx=>by
  obtain ⟨j,hj,rfl⟩:=List.getElem_of_mem hx;exact h1 j hj
 unfold IZ;rw [this]
theorem iS {α:Type} (p:α->Bool) (l:List α):(IZ p l = -1/\l.any p=false)∨∃ k:Nat,∃ h:k<l.length,IZ p l=(k:Int)/\p l[k]=true/\l.any p=true/\∀ j (h:j<l.length),j<k->p l[j]=false:=by
 cases h:l.findIdx? p with
 |none =>
  refine Or.inl ⟨by unfold IZ;rw [h],?_⟩;rw [List.any_eq_false];intro x hx;have:=List.findIdx?_eq_none_iff.1 h x hx;simp [this]
 |some k =>
  obtain ⟨hk,h2,h1⟩:=List.findIdx?_eq_some_iff_getElem.1 h;refine Or.inr ⟨k,hk,by unfold IZ;rw [h],h2,List.any_eq_true.2 ⟨_,List.getElem_mem hk,h2⟩,fun j hj hjk=>?_⟩;have:=h1 j hjk;simpa using this
theorem Iy {α:Type} (p:α->Bool) (l:List α):decide (0<=IZ p l)=l.any p:=by
 rcases iS p l with ⟨h1,h2⟩ | ⟨k,hk,h1,_,h2,_⟩
 ·rw [h1,h2];decide
 ·rw [h1,h2];exact decide_eq_true (by omega)
theorem iZ {α:Type} (p:α->Bool) (l:List α):-1<=IZ p l/\IZ p l<(l.length:Int):=by
 rcases iS p l with ⟨h1,h2⟩ | ⟨k,hk,h1,_,h2,_⟩ <;> omega
def iV (v u:Int × Bool):Bool:=u.1 == v.1 && u.2 == v.2
theorem ii {v u:Int × Bool}:iV v u=true↔u=v:=by
 unfold iV;rw [Bool.and_eq_true,beq_iff_eq,beq_iff_eq];exact ⟨fun h=>Prod.ext h.1 h.2,fun h=>by rw [h];exact ⟨rfl,rfl⟩⟩
def iO (o:Int) (u:Int × Bool):Bool:=u.1 == o
def Hs (l:List (Int × Bool)) (v:Int × Bool):Bool:=l.any (iV v)
theorem Af {l:List (Int × Bool)} {v:Int × Bool}:Hs l v=true↔v ∈ l:=by
 unfold Hs;rw [List.any_eq_true];exact ⟨fun ⟨u,hu,h⟩=>by rw [ii] at h;rw [<- h];exact hu,fun h=>⟨v,h,ii.2 rfl⟩⟩
def Ai (l:List (Int × Bool)) (o:Int):Bool:=l.any (iO o)
theorem Hf {l:List (Int × Bool)} {o:Int}:Ai l o=true↔∃ v ∈ l,v.1=o:=by
 unfold Ai iO;rw [List.any_eq_true];simp only [beq_iff_eq]
def tW (l:List (Int × Bool)):Bool:=(List.range l.length).any fun i=>Hs (l.take i) (l.getD i (0,false))
theorem getD_at {α:Type} (l:List α) (d:α) {i:Nat} (h:i<l.length):l.getD i d=l[i]:=by simp [List.getD,h]
theorem twiceV_yes {l:List (Int × Bool)} {k:Nat} (hk:k<l.length) (h:Hs (l.take k) l[k]=true):tW l=true:=by
 unfold tW;rw [List.any_eq_true];exact ⟨k,List.mem_range.2 hk,by rw [getD_at l _ hk];exact h⟩
theorem twiceV_no {l:List (Int × Bool)} (h:∀ k (hk:k<l.length),Hs (l.take k) l[k]=false):tW l=false:=by
 unfold tW;rw [List.any_eq_false];intro k hk;have hk:=List.mem_range.1 hk;rw [getD_at l _ hk,h k hk];simp
theorem Tp {l:List (Int × Bool)}:tW l=false↔l.Nodup:=by
 unfold tW;rw [List.any_eq_false];constructor
 ·intro h
  rw [List.nodup_iff_pairwise_ne,List.pairwise_iff_getElem];intro i j hi hj hij e;have:=h j (List.mem_range.2 hj);rw [getD_at l _ hj,Af] at this;exact this (List.mem_take_iff_getElem.2 ⟨i,by omega,e⟩)
 ·intro h i hi
  have hi:=List.mem_range.1 hi;rw [getD_at l _ hi,Af];intro hm;obtain ⟨j,hj,e⟩:=List.mem_take_iff_getElem.1 hm;rw [List.nodup_iff_pairwise_ne,List.pairwise_iff_getElem] at h;exact h j i (by omega) hi (by omega) e
def aV (l:List (Int × Bool)):Int->List (Int × Bool)->Bool
 |_,[]=>true
 |last,w :: ws=>decide (last<IZ (iV w) l) && aV l (IZ (iV w) l) ws
def pV (x:IV) (l:List (Int × Bool)):Bool:=l.all fun v=>Hs (vO x v.1) v && aV l (-1) (vO x v.1)
def bV (l:List (Int × Bool)) (a b:Int):Bool:=if IZ (iO b) l<0 then true else Ai l a && !Ai (l.drop (IZ (iO b) l).toNat) a
def bO (x:IV) (v:Int × Bool):Bool:=!inOrds x v.1
def oV (x:IV) (v:Int × Bool):Bool:=oO x v.1
def aB (l:List (Int × Bool)) (p:Int × Int):Bool:=Ai l p.1 && Ai l p.2
def BB (l:List (Int × Bool)) (p:Int × Int):Bool:=!bV l p.1 p.2
def sE (x:IV) (l:List (Int × Bool)):Int :=
 if l.length=0 then 2 else if l.any (bO x) then 2 else if l.any (oV x) then 9 else if tW l then 6 else if !pV x l then 19
 else if x.apart.any (aB l) then 20 else if x.before.any (BB l) then 21 else 0
theorem bad_rng {x:IV} {l:List (Int × Bool)} (h:l.any (bO x)=false):∀ v ∈ l,0<=v.1/\v.1<(x.ords.length:Int):=by
 intro v hv;rw [List.any_eq_false] at h;have:=h v hv;unfold bO inOrds at this;simpa using this
theorem sG {x:IV} {l:List (Int × Bool)} (h:sE x l=0):∀ v ∈ l,0<=v.1/\v.1<(x.ords.length:Int):=by
 unfold sE at h;split at h
 ·cases h
 split at h
 ·cases h
 ·rename_i h1
  exact bad_rng ((Bool.not_eq_true _).mp h1)
theorem ascV_drop {l own:List (Int × Bool)} {k:Nat} {last:Int} (h:k<own.length):aV l last (own.drop k)=(decide (last<IZ (iV own[k]) l) && aV l (IZ (iV own[k]) l) (own.drop (k+1))):=by
 rw [List.drop_eq_getElem_cons h,aV]
theorem ascV_end {l own:List (Int × Bool)} {k:Nat} {last:Int} (h:own.length<=k):aV l last (own.drop k)=true:=by
 rw [List.drop_eq_nil_of_le h,aV]
theorem paired_no {x:IV} {l:List (Int × Bool)} {k:Nat} (hk:k<l.length) (h:(Hs (vO x l[k].1) l[k] && aV l (-1) (vO x l[k].1))=false):pV x l=false:=by
 unfold pV;rw [List.all_eq_false];exact ⟨_,List.getElem_mem hk,by rw [h];simp⟩
theorem paired_yes {x:IV} {l:List (Int × Bool)} (h:∀ k (hk:k<l.length),(Hs (vO x l[k].1) l[k] && aV l (-1) (vO x l[k].1))=true):pV x l=true:=by
 unfold pV;rw [List.all_eq_true];intro v hv;obtain ⟨k,hk,rfl⟩:=List.getElem_of_mem hv;exact h k hk
theorem any_yes {α:Type} {p:α->Bool} {l:List α} {k:Nat} (hk:k<l.length) (h:p l[k]=true):l.any p=true:=List.any_eq_true.2 ⟨_,List.getElem_mem hk,h⟩
theorem any_none {α:Type} {p:α->Bool} {l:List α} (h:∀ k (hk:k<l.length),p l[k]=false):l.any p=false:=by
 rw [List.any_eq_false];intro v hv;obtain ⟨k,hk,rfl⟩:=List.getElem_of_mem hv;rw [h k hk];simp
end Tk
end Go.Proofs.YtjcekdiocliddaaGreatDoor
namespace Go.Proofs.YtjcekdiocliddaaGreatDoor
open Go.RowKit Num Txt Pf Tk
set_option linter.unusedVariables false
def PC (p:Int × Int):List Value:=[.int .i64 p.1,.int .i64 p.2]
theorem pC (p:Int × Int):(PC p).length=2:=rfl
def F2 (p:Int × Int):Prop:=fits p.1/\fits p.2
structure AM where
 A:Option Addr
 ca:Nat
 C:Option Addr
 cc:Nat
 a:ArcV
def AM.cells (m:AM):List Value:=[.int .i64 m.a.frm,.int .i64 m.a.tgt,.int .i64 m.a.prof,.int .i64 m.a.miles,.slice m.A m.a.trav.length m.ca,.slice m.C m.a.slow.length m.cc]
theorem AM.cells_len (m:AM):m.cells.length=6:=rfl
structure AR (w:World) (m:AM):Prop where
 trav:Cs w m.A (m.a.trav.flatMap PC)
 slow:Cs w m.C (m.a.slow.flatMap PC)
 tl:m.a.trav.length<=m.ca/\m.ca<=maxLen
 sl:m.a.slow.length<=m.cc/\m.cc<=maxLen
 travF:∀ p ∈ m.a.trav,F2 p
 slowF:∀ p ∈ m.a.slow,F2 p
 frm:fits m.a.frm
 tgt:fits m.a.tgt
 prof:fits m.a.prof
 miles:fits m.a.miles
theorem AR.below {w w':World} {m:AM} (h:AR w m) (hb:Below w.heap.size w w'):AR w' m:=⟨h.trav.below hb,h.slow.below hb,h.tl,h.sl,h.travF,h.slowF,h.frm,h.tgt,h.prof,h.miles⟩
structure Ty where
 A:Option Addr
 ca:Nat
 t:TV
def Ty.cells (m:Ty):List Value:=[.string (B m.t.name),.int .i64 m.t.count,.int .i64 m.t.frm,.int .i64 m.t.tgt,.slice m.A m.t.cap.length m.ca,.int .i64 m.t.skills,.int .i64 m.t.prof,.int .i64 m.t.opn,.int .i64 m.t.cls,.int .i64 m.t.drive,.int .i64 m.t.rest,.int .i64 m.t.fixed,.int .i64 m.t.mile,.int .i64 m.t.tick]
theorem Ty.cells_len (m:Ty):m.cells.length=14:=rfl
structure TypeF (t:TV):Prop where
 name:t.name.length<=maxLen
 count:fits t.count
 frm:fits t.frm
 tgt:fits t.tgt
 skills:fits t.skills
 prof:fits t.prof
 opn:fits t.opn
 cls:fits t.cls
 drive:fits t.drive
 rest:fits t.rest
 fixed:fits t.fixed
 mile:fits t.mile
 tick:fits t.tick
structure TY (w:World) (m:Ty):Prop where
 cap:Cs w m.A (ints m.t.cap)
 cl:m.t.cap.length<=m.ca/\m.ca<=maxLen
 capF:∀ n ∈ m.t.cap,fits n
 f:TypeF m.t
theorem TY.below {w w':World} {m:Ty} (h:TY w m) (hb:Below w.heap.size w w'):TY w' m:=⟨h.cap.below hb,h.cl,h.capF,h.f⟩
structure StopF (s:St):Prop where
 place:fits s.place
 opn:fits s.opn
 cls:fits s.cls
 serv:fits s.serv
def Bw (s:St):List Value:=[.int .i64 s.place,.int .i64 s.opn,.int .i64 s.cls,.int .i64 s.serv]
theorem stopC_len (s:St):(Bw s).length=4:=rfl
structure OM where
 A:Option Addr
 ca:Nat
 o:OrdV
def OM.cells (m:OM):List Value:=[.string (B m.o.name),.slice m.A m.o.load.length m.ca,.int .i64 m.o.pick.place,.int .i64 m.o.pick.opn,.int .i64 m.o.pick.cls,.int .i64 m.o.pick.serv,.int .i64 m.o.drop.place,.int .i64 m.o.drop.opn,.int .i64 m.o.drop.cls,.int .i64 m.o.drop.serv,.int .i64 m.o.skills,.int .i64 m.o.pen,.int .i64 m.o.split,.int .i64 m.o.last,.int .i64 m.o.now,.bool m.o.off]
theorem OM.cells_len (m:OM):m.cells.length=16:=rfl
structure Ot (w:World) (m:OM):Prop where
 load:Cs w m.A (ints m.o.load)
 ll:m.o.load.length<=m.ca/\m.ca<=maxLen
 loadF:∀ n ∈ m.o.load,fits n
 name:m.o.name.length<=maxLen
 pick:StopF m.o.pick
 drop:StopF m.o.drop
 skills:fits m.o.skills
 pen:fits m.o.pen
 split:fits m.o.split
 last:fits m.o.last
 now:fits m.o.now
theorem Ot.below {w w':World} {m:OM} (h:Ot w m) (hb:Below w.heap.size w w'):Ot w' m:=⟨h.load.below hb,h.ll,h.loadF,h.name,h.pick,h.drop,h.skills,h.pen,h.split,h.last,h.now⟩
structure IM where
 pA:Option Addr
 pc:Nat
 places:List Sr
 aA:Option Addr
 ac:Nat
 arcs:List AM
 tA:Option Addr
 tc:Nat
 types:List Ty
 oA:Option Addr
 oc:Nat
 ords:List OM
 xA:Option Addr
 xc:Nat
 apart:List (Int × Int)
 bA:Option Addr
 bc:Nat
 before:List (Int × Int)
abbrev iA (m:IM):Value:=.agg #[.slice m.pA m.places.length m.pc,.slice m.aA m.arcs.length m.ac,.slice m.tA m.types.length m.tc,.slice m.oA m.ords.length m.oc,.slice m.xA m.apart.length m.xc,.slice m.bA m.before.length m.bc]
def IM.v (m:IM):IV:=⟨m.places,m.arcs.map (·.a),m.types.map (·.t),m.ords.map (·.o),m.apart,m.before⟩
structure IA (w:World) (m:IM):Prop where
 places:Cs w m.pA (strs m.places)
 arcs:Cs w m.aA (m.arcs.flatMap AM.cells)
 types:Cs w m.tA (m.types.flatMap Ty.cells)
 ords:Cs w m.oA (m.ords.flatMap OM.cells)
 apart:Cs w m.xA (m.apart.flatMap PC)
 before:Cs w m.bA (m.before.flatMap PC)
 arcE:∀ a ∈ m.arcs,AR w a
 typeE:∀ t ∈ m.types,TY w t
 ordE:∀ o ∈ m.ords,Ot w o
 pl:m.places.length<=m.pc/\m.pc<=maxLen
 al:m.arcs.length<=m.ac/\m.ac<=maxLen
 tl:m.types.length<=m.tc/\m.tc<=maxLen
 ol:m.ords.length<=m.oc/\m.oc<=maxLen
 xl:m.apart.length<=m.xc/\m.xc<=maxLen
 bl:m.before.length<=m.bc/\m.bc<=maxLen
 placeF:∀ s ∈ m.places,s.length<=maxLen
 apartF:∀ p ∈ m.apart,F2 p
 beforeF:∀ p ∈ m.before,F2 p
theorem IA.below {w w':World} {m:IM} (h:IA w m) (hb:Below w.heap.size w w'):IA w' m:=⟨h.places.below hb,h.arcs.below hb,h.types.below hb,h.ords.below hb,h.apart.below hb,h.before.below hb,fun a ha=>(h.arcE a ha).below hb,fun a ha=>(h.typeE a ha).below hb,fun a ha=>(h.ordE a ha).below hb,h.pl,h.al,h.tl,h.ol,h.xl,h.bl,h.placeF,h.apartF,h.beforeF⟩
attribute [local go_sem] BS Bg Bt Bm Be Ba
theorem eP {α:Type} {f:α->List Value} {k:Nat} (hf:∀ x,(f x).length=k) (hk:0<k) {w:World} {A:Option Addr} {l:List α} (h:Cs w A (l.flatMap f)) (h0:0<l.length) :
  ∃ b off,A=some ⟨b,off,none⟩/\b<w.heap.size/\∀ i (hi:i<l.length) j v,(f l[i])[j]? = some v->w.cell? ⟨b,off+i*k+j,none⟩=some v:=by
 obtain ⟨b,off,e,hb,hc⟩:=h (by rw [fl f hf];exact Nat.mul_pos h0 hk);refine ⟨b,off,e,hb,fun i hi j v hv=>?_⟩;have hj:j<k:=by rw [<- hf l[i]];exact (List.getElem?_eq_some_iff.1 hv).1
 rw [Nat.add_assoc];exact hc _ _ (by rw [flat_get f hf l i hi j hj];exact hv)
def fC (f:Int × Sr):List Value:=[.int .i64 f.1,.string (B f.2)]
theorem FC (f:Int × Sr):(fC f).length=2:=rfl
theorem flt_info:(Tryz.prog.info? 193).map (fun i=>(i.zero,i.size,i.bytes))=some (some (.agg #[.int .i64 0,.string (B [])]),2,24):=by kernel_rfl
theorem ef:ER Tryz.prog 67 193 (.agg #[.int .i64 0,.string (B [])]) 2 24:=⟨Tryz.underlying67,info_parts flt_info,rfl,by decide⟩
theorem err_info:(Tryz.prog.info? 42).map (fun i=>(i.zero,i.size,i.bytes))=some (some (.int .i64 0),1,8):=by kernel_rfl
theorem ee:ER Tryz.prog 195 42 (.int .i64 0) 1 8:=⟨Tryz.underlying195,info_parts err_info,rfl,by decide⟩
abbrev FO (w:World) (Bs:Nat) (A:Option Addr) (c:Nat) (fs:List (Int × Sr)):Prop:=OR w Bs 193 2 A fs.length c (fs.flatMap fC)
def fZ (K:Nat) (fs:List (Int × Sr)):Prop:=∀ f ∈ fs,f.2.length<=K/\fits f.1
def FlE (n K:Nat) (ok:Prop) (w:World) (e:Ending) (w':World):Prop:=∃ (A:Option Addr) (c:Nat) (fs:List (Int × Sr)),e=.returned (.slice A fs.length c)/\FO w' w.heap.size A c fs/\fZ K fs/\fs.length<=n/\(fs=[]->ok)/\Below w.heap.size w w'
theorem FO.snoc {fs:List (Int × Sr)} {e:Int} {s:Sr}:fs.flatMap fC ++ [Value.int .i64 e,.string (B s)]=(fs ++ [(e,s)]).flatMap fC:=Fs fC fs (e,s)
theorem oS {w:World} {Bs sz:Nat} {e:TypeId} {v:Value} {n:Nat} {xs:List Value} (h:w.ownsRow Bs e sz v n xs):∃ A c,v=.slice A n c:=by
 rcases h.2 with ⟨hv,hn⟩ | ⟨g,cap,cur,hv,_⟩
 ·exact ⟨none,0,by rw [hv,hn]⟩
 ·exact ⟨_,_,hv⟩
theorem OR.rowb {w:World} {Bs sz:Nat} {e:TypeId} {A:Option Addr} {n c:Nat} {xs:List Value} (h:OR w Bs e sz A n c xs):∀ k,(Value.slice A n c).ownBlock=some k->Bs<=k:=by
 intro k hk;rcases h.2 with ⟨hv,_⟩ | ⟨g',cap',cur',hv,hg',_⟩
 ·rw [hv] at hk;simp [Value.ownBlock] at hk
 ·rw [hv] at hk;simp [Value.ownBlock] at hk;omega
section
variable {P:Program} {ops:Array Oper} {rest:List Oper} {o:Oper} {a:Act} {Q:Exit->Act->World->Prop}
theorem wp_appmR {t e:TypeId} {z:Value} {sz bytes:Nat} (he:ER P t e z sz bytes) (hgd:o.guard=none) (s x:Operand) (ho:o.op=.call { callee:=.builtin .append,args:=#[s,x],argTypes:=#[t,t] })
  (Bs:Nat) (A:Option Addr) (n c:Nat) (xs:List Value) (w:World) (X:Option Addr) (m cx:Nat) (news:List Value) (hs:a.eval s=.slice A n c) (hown:OR w Bs e sz A n c xs)
  (hx:a.eval x=.slice X m cx) (hX:Cs w X news) (hX0:X=none->cx=0) (hm:news.length=m*sz) (h1:∀ u ∈ news,u.oneCell'=true) (h63:n+m<=maxLen) (hby:(n+m)*bytes<=140737488355328) (hbase:Bs<=w.heap.size)
  (h:∀ A' c' w',OR w' Bs e sz A' (n+m) c' (xs ++ news)->Below Bs w w'->wpList P ops Q rest (a.put o.dst (.slice A' (n+m) c')) w') :
  wpList P ops Q (o :: rest) a w:=by
 obtain ⟨ht,⟨i,hi,hz,hsz,hb⟩,hzs,hpos⟩:=he
 cases X with
 |none =>
  have hv:news=[]:=by
   cases news with
   |nil=>rfl
   |cons x xs=>obtain ⟨b,off,e,_⟩:=hX (by simp);cases e
  have hcx:=hX0 rfl;subst hcx hv
  obtain rfl:m=0:=by
   rcases Nat.eq_zero_or_pos m with h | h
   ·exact h
   ·have:=Nat.mul_pos h hpos;simp at hm;omega
  refine wpList_append_own_none hgd s x t ho Bs e i sz ht hi (.slice A n c) n xs hs hown hx ?_;exact h A c w (by rw [List.append_nil];exact hown) (Below.refl _ _)
 |some ad =>
  by_cases h0:0<news.length
  ·have hcell:∀ j u,news[j]? = some u->w.cell? (ad.add j)=some u:=by
    intro j u hu;obtain ⟨b,off,e,hb,h2⟩:=hX h0;injection e with e
    subst e;rw [Go.WideShapes.add_plain];exact h2 j u hu
   refine wpList_append_own _ hgd s x t ho Bs e i z sz bytes ht hi hz hsz hb hzs hpos (.slice A n c) n xs hs hown ad m cx news hx hm hcell h1 h63 hby hbase ?_;intro v' w' h2 h3 _;obtain ⟨A2,c2,rfl⟩:=oS h2;exact h A2 c2 w' h2 ((Below.refl _ _).grown h3 hbase hown.rowb)
  ·have hv:news=[]:=List.length_eq_zero_iff.1 (by omega)
   subst hv;refine wpList_append_own _ hgd s x t ho Bs e i z sz bytes ht hi hz hsz hb hzs hpos (.slice A n c) n xs hs hown ad m cx [] hx hm (fun j u hu=>by simp at hu) h1 h63 hby hbase ?_;intro v' w' h2 h3 _;obtain ⟨A2,c2,rfl⟩:=oS h2;exact h A2 c2 w' h2 ((Below.refl _ _).grown h3 hbase hown.rowb)
end
theorem C2 {w:World} {g:Nat} {a b:Value} {e:TypeId} {z:Nat × Nat} (h:w.heap[g]? = some (.cells #[a,b] e z)):w.cell? ⟨g,0,none⟩=some a/\w.cell? ⟨g,1,none⟩=some b:=⟨by simp [World.cell?,h],by simp [World.cell?,h]⟩
theorem flt_one {l:List (Int × Sr)}:∀ u ∈ l.flatMap fC,u.oneCell'=true:=by
 intro u hu;obtain ⟨f,_,hf⟩:=List.mem_flatMap.1 hu;unfold fC at hf;simp only [List.mem_cons,List.not_mem_nil,or_false] at hf;rcases hf with rfl | rfl <;> rfl
theorem flt_len (l:List (Int × Sr)):(l.flatMap fC).length=l.length*2:=fl fC FC l
section
variable {P:Program} {ops:Array Oper} {rest:List Oper} {o:Oper} {a:Act} {Q:Exit->Act->World->Prop}
theorem wt {t e:TypeId} {z:Value} {sz bytes:Nat} (he:ER P t e z sz bytes) (hgd:o.guard=none) (s x:Operand) (ho:o.op=.call { callee:=.builtin .append,args:=#[s,x],argTypes:=#[t,t] }) (het:e=193) (hsz:sz=2) (hby:bytes=24)
  (Bs:Nat) (A:Option Addr) (c:Nat) (fs:List (Int × Sr)) (w:World) (k:Int) (str:Sr) (hs:a.eval s=.slice A fs.length c) (hown:FO w Bs A c fs)
  (hx:a.eval x=.slice (some ⟨w.heap.size,0,none⟩) 1 1) (hl:fs.length<=1099511627776) (hbase:Bs<=w.heap.size)
  (h:∀ A' c' w',FO w' Bs A' c' (fs ++ [(k,str)])->Below Bs w w'->KA A w w'->wpList P ops Q rest (a.put o.dst (.slice A' (fs ++ [(k,str)]).length c')) w') :
  wpList P ops Q (o :: rest) a (w.alloc (.cells #[.int .i64 k,.string (B str)] e)):=by
 subst het hsz hby;refine wk he hgd s x ho Bs A fs.length c (fs.flatMap fC) w #[.int .i64 k,.string (B str)] hs hown hx rfl (by intro u hu;simp at hu;rcases hu with rfl | rfl <;> rfl) (by unfold maxLen;omega) (by omega) hbase ?_;intro A' c' w' h1 h2 h3;have hlen:(fs ++ [(k,str)]).length=fs.length+1:=by rw [List.length_append];rfl
 have h4:=h A' c' w' (by show OR _ _ _ _ _ _ _ _;rw [hlen,<- FO.snoc];exact h1) h2 h3;rw [hlen] at h4;exact h4
end
theorem fZ.nil {K:Nat}:fZ K []:=fun _ h=>absurd h (by simp)
theorem fZ.snoc {K:Nat} {fs:List (Int × Sr)} {e:Int} {s:Sr} (h:fZ K fs) (hs:s.length<=K) (he:fits e):fZ K (fs ++ [(e,s)]):=fun f hf=>by
 rcases List.mem_append.1 hf with h1 | h1
 ·exact h f h1
 ·rw [List.mem_singleton.1 h1];exact ⟨hs,he⟩
theorem fZ.app {K:Nat} {fs gs:List (Int × Sr)} (h:fZ K fs) (h2:fZ K gs):fZ K (fs ++ gs):=fun f hf=>by
 rcases List.mem_append.1 hf with h1 | h1
 ·exact h f h1
 ·exact h2 f h1
theorem fZ.mono {K K':Nat} {fs:List (Int × Sr)} (h:fZ K fs) (hk:K<=K'):fZ K' fs:=fun f hf=>⟨Nat.le_trans (h f hf).1 hk,(h f hf).2⟩
theorem flt_type:193≠74:=by decide
theorem sN {α:Type} {l:List α} {x:α} {p:Prop}:l ++ [x]=[]->p:=fun h=>absurd h (by simp)
theorem sL {α:Type} (l:List α) (x:α):(l ++ [x]).length=l.length+1:=by simp
end Go.Proofs.YtjcekdiocliddaaGreatDoor
namespace Go.Proofs.YtjcekdiocliddaaGreatDoor
open Go.RowKit Num Txt Pf Tk
set_option linter.unusedVariables false
def TC (t:TI):List Value:=[.int .i64 t.arr,.int .i64 t.beg,.int .i64 t.dep,.bool t.rest]
theorem tn (t:TI):(TC t).length=4:=rfl
def Tt (w:World) (A:Option Addr) (c:Nat) (ts:List TI):Prop:=Cs w A (ts.flatMap TC)/\(ts.length<=c/\c<=maxLen)/\(∀ a,A=some a->∃ cur,w.heap[a.block]? = some (.cells cur 158))/\(A=none->c=0)
theorem Tt.below {w w':World} {A:Option Addr} {c:Nat} {ts:List TI} (h:Tt w A c ts) (hb:Below w.heap.size w w'):Tt w' A c ts:=⟨h.1.below hb,h.2.1,fun a ha=>by obtain ⟨cur,hc⟩:=h.2.2.1 a ha;exact ⟨cur,rK hc hb⟩,h.2.2.2⟩
theorem Tt.nil (w:World):Tt w none 0 []:=⟨fun h=>absurd h (by simp),by simp,fun a h=>(by cases h),fun _=>rfl⟩
theorem Tt.keep {w w':World} {A:Option Addr} {c:Nat} {ts:List TI} (h:Tt w A c ts) {g:Nat} {old:Array Value} {t:TypeId} (hg:w.heap[g]? = some (.cells old t)) (ht:t≠158) (hs:w.heap.size<=w'.heap.size) (hk:∀ k,k<w.heap.size->k≠g->w'.heap[k]? = w.heap[k]?):Tt w' A c ts:=by
 obtain ⟨h1,h2,h3,h4⟩:=h
 have hne:∀ a,A=some a->w'.heap[a.block]? = w.heap[a.block]? := fun a ha=>by
  obtain ⟨cur,hc⟩:=h3 a ha;refine hk _ (lh hc) (fun e=>?_);rw [e,hg] at hc;injection hc with hc
  injection hc with _ hc _
  exact ht hc
 refine ⟨fun h0=>?_,h2,fun a ha=>?_,h4⟩
 ·obtain ⟨b,off,e,hb,hx⟩:=h1 h0
  refine ⟨b,off,e,Nat.lt_of_lt_of_le hb hs,fun j v hv=>?_⟩;rw [<- hx j v hv];exact World.cell?_of_block (w:=w) (w':=w') (a:=⟨b,off+j,none⟩) (show w'.heap[b]? = w.heap[b]? from hne ⟨b,off,none⟩ e)
 ·obtain ⟨cur,hc⟩:=h3 a ha
  exact ⟨cur,(hne a ha).trans hc⟩
abbrev Az (A:Option Addr) (c:Nat) (s:SV):Value:=.agg #[.bool s.rest,.int .i64 s.dep,.slice A s.times.length c,.int .i64 s.fin,.int .i64 s.miles]
structure LM where
 A:Option Addr
 c:Nat
 l:LV
def LM.cells (m:LM):List Value:=[.int .i64 m.l.ready,.int .i64 m.l.since,.bool m.l.sh.rest,.int .i64 m.l.sh.dep,.slice m.A m.l.sh.times.length m.c,.int .i64 m.l.sh.fin,.int .i64 m.l.sh.miles]
theorem LM.cells_len (m:LM):m.cells.length=7:=rfl
abbrev Db (A:Option Addr) (c:Nat) (l:LV):Value:=.agg #[.int .i64 l.ready,.int .i64 l.since,.bool l.sh.rest,.int .i64 l.sh.dep,.slice A l.sh.times.length c,.int .i64 l.sh.fin,.int .i64 l.sh.miles]
def Cj (w:World) (m:LM):Prop:=Tt w m.A m.c m.l.sh.times
theorem Cj.below {w w':World} {m:LM} (h:Cj w m) (hb:Below w.heap.size w w'):Cj w' m:=Tt.below h hb
structure Ab where
 m:IM
 t:Ty
 r:RM
 A:Option Addr
 c:Nat
 stops:List St
def Ab.v (q:Ab):Tr:=⟨q.m.v,q.t.t,q.r.r,q.stops⟩
def TR (q:Ab):Array Value:=#[.slice q.m.pA q.m.places.length q.m.pc,.slice q.m.aA q.m.arcs.length q.m.ac,.slice q.m.tA q.m.types.length q.m.tc,.slice q.m.oA q.m.ords.length q.m.oc,.slice q.m.xA q.m.apart.length q.m.xc,.slice q.m.bA q.m.before.length q.m.bc,
 .string (B q.t.t.name),.int .i64 q.t.t.count,.int .i64 q.t.t.frm,.int .i64 q.t.t.tgt,.slice q.t.A q.t.t.cap.length q.t.ca,.int .i64 q.t.t.skills,.int .i64 q.t.t.prof,.int .i64 q.t.t.opn,.int .i64 q.t.t.cls,.int .i64 q.t.t.drive,.int .i64 q.t.t.rest,.int .i64 q.t.t.fixed,.int .i64 q.t.t.mile,.int .i64 q.t.t.tick,
 .int .i64 q.r.r.kind,.int .i64 q.r.r.start,.slice q.r.A q.r.r.rests.length q.r.ca,.slice q.r.C q.r.r.vis.length q.r.cc,.slice q.A q.stops.length q.c]
abbrev tr (q:Ab):Value:=.agg #[.slice q.m.pA q.m.places.length q.m.pc,.slice q.m.aA q.m.arcs.length q.m.ac,.slice q.m.tA q.m.types.length q.m.tc,.slice q.m.oA q.m.ords.length q.m.oc,.slice q.m.xA q.m.apart.length q.m.xc,.slice q.m.bA q.m.before.length q.m.bc,
 .string (B q.t.t.name),.int .i64 q.t.t.count,.int .i64 q.t.t.frm,.int .i64 q.t.t.tgt,.slice q.t.A q.t.t.cap.length q.t.ca,.int .i64 q.t.t.skills,.int .i64 q.t.t.prof,.int .i64 q.t.t.opn,.int .i64 q.t.t.cls,.int .i64 q.t.t.drive,.int .i64 q.t.t.rest,.int .i64 q.t.t.fixed,.int .i64 q.t.t.mile,.int .i64 q.t.t.tick,
 .int .i64 q.r.r.kind,.int .i64 q.r.r.start,.slice q.r.A q.r.r.rests.length q.r.ca,.slice q.r.C q.r.r.vis.length q.r.cc,.slice q.A q.stops.length q.c]
structure TT (w:World) (q:Ab):Prop where
 m:IA w q.m
 t:TY w q.t
 r:Rt w q.r
 stops:Cs w q.A (q.stops.flatMap Bw)
 sl:q.stops.length<=q.c/\q.c<=maxLen
 is:PlanIs q.m.v q.r.r q.v
 ok:IK q.m.v
theorem TT.below {w w':World} {q:Ab} (h:TT w q) (hb:Below w.heap.size w w'):TT w' q:=⟨h.m.below hb,h.t.below hb,h.r.below hb,h.stops.below hb,h.sl,h.is,h.ok⟩
theorem TT.trip {w:World} {q:Ab} (h:TT w q):TK q.v:=h.is.ok h.ok
theorem stp_info:(Tryz.prog.info? 134).map (fun i=>(i.zero,i.size,i.bytes))=some (some (.agg #[.int .i64 0,.int .i64 0,.int .i64 0,.int .i64 0]),4,32):=by kernel_rfl
theorem el_stp:ER Tryz.prog 82 134 (.agg #[.int .i64 0,.int .i64 0,.int .i64 0,.int .i64 0]) 4 32:=⟨Tryz.underlying82,info_parts stp_info,rfl,by decide⟩
theorem tm_info:(Tryz.prog.info? 158).map (fun i=>(i.zero,i.size,i.bytes))=some (some (.agg #[.int .i64 0,.int .i64 0,.int .i64 0,.bool false]),4,32):=by kernel_rfl
theorem el_tm:ER Tryz.prog 37 158 (.agg #[.int .i64 0,.int .i64 0,.int .i64 0,.bool false]) 4 32:=⟨Tryz.underlying37,info_parts tm_info,rfl,by decide⟩
theorem lab_info:(Tryz.prog.info? 150).map (fun i=>(i.zero,i.size,i.bytes))=some (some (.agg #[.int .i64 0,.int .i64 0,.bool false,.int .i64 0,.slice none 0 0,.int .i64 0,.int .i64 0]),7,72):=by kernel_rfl
theorem el_lab:ER Tryz.prog 152 150 (.agg #[.int .i64 0,.int .i64 0,.bool false,.int .i64 0,.slice none 0 0,.int .i64 0,.int .i64 0]) 7 72:=⟨Tryz.underlying152,info_parts lab_info,rfl,by decide⟩
end Go.Proofs.YtjcekdiocliddaaGreatDoor

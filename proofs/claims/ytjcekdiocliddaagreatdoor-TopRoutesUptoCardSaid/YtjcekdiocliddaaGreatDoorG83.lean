/- Arrivals are no earlier than departures, and no later for earlier ones; miles; weights of scores. Plain. -/
import Derived.Test.YtjcekdiocliddaaGreatDoorTmO
import Derived.Deep.QuietTactic
import Derived.BigQuiet
import Derived.Test.YtjcekdiocliddaaGreatDoorG76
namespace Go.Proofs.YtjcekdiocliddaaGreatDoor
open Lib (hid)
namespace Tk
open Num Txt Pf
theorem interp_id (a b c d:Int):a*(d+(a+b) - c)=(a - c)*(a+b)+(a*d+c*b):=by
 simp only [Int.mul_add,Int.mul_sub,Int.sub_mul];rw [Int.mul_comm c a];omega
theorem interp_ge {p q:Int × Int} {t:Int} (h1:p.1<t) (h2:t<q.1) (hp:p.1<=p.2) (hq:q.1<=q.2) (hpq:p.2<=q.2):t<=p.2+((t - p.1)*(q.2 - p.2)+(q.1 - p.1) - 1).tdiv (q.1 - p.1):=by
 have hN:0<=(t - p.1)*(q.2 - p.2):=Int.mul_nonneg (by omega) (by omega);rw [Int.tdiv_eq_ediv_of_nonneg (by omega)]
 have hk:t - p.2<=((t - p.1)*(q.2 - p.2)+(q.1 - p.1) - 1) / (q.1 - p.1):=by
  rw [Int.le_ediv_iff_mul_le (by omega)];have e:=interp_id (t - p.1) (q.1 - t) (p.2 - p.1) (q.2 - q.1);have e1:q.2 - q.1+(t - p.1+(q.1 - t)) - (p.2 - p.1)=q.2 - p.2:=by omega
  have e2:t - p.1 - (p.2 - p.1)=t - p.2:=by omega
  have e3:t - p.1+(q.1 - t)=q.1 - p.1:=by omega
  rw [e1,e2,e3] at e;have h3:0<=(t - p.1)*(q.2 - q.1):=Int.mul_nonneg (by omega) (by omega);have h4:0<=(p.2 - p.1)*(q.1 - t):=Int.mul_nonneg (by omega) (by omega);omega
 omega
theorem aT {l:List (Int × Int)} (h:PO l) (t:Int) (P:Int->Prop)
  (c1:∀ hi:pN l t<l.length,l[pN l t].1=t->P l[pN l t].2)
  (c2:∀ hi:0<l.length,pN l t=0->t<l[0].1->P (t+l[0].2 - l[0].1))
  (c3:∀ (i:Nat) (hi:i+1<l.length),pN l t=i+1->(l[i]'(by omega)).1<t->t<l[i+1].1->P ((l[i]'(by omega)).2+((t - (l[i]'(by omega)).1)*(l[i+1].2 - (l[i]'(by omega)).2)+(l[i+1].1 - (l[i]'(by omega)).1) - 1).tdiv (l[i+1].1 - (l[i]'(by omega)).1)))
  (c4:∀ (i:Nat) (hi:i<l.length),i+1=l.length->pN l t=i+1->l[i].1<t->P (t+l[i].2 - l[i].1)):P (ar l t):=by
 obtain ⟨h1,h2⟩:=Pc l t;have h3:=Pe l t;have hpos:=h.pos;unfold ar;simp only;generalize pN l t=i at *;rcases Nat.lt_or_ge i l.length with hi | hi
 ·rw [List.getElem?_eq_getElem hi]
  have hqt:=h2 hi;simp only;by_cases he:l[i].1=t
  ·rw [if_pos he];exact c1 hi he
  ·rw [if_neg he]
   cases i with
   |zero=>rw [if_pos rfl];exact c2 hi rfl (by omega)
   |succ i =>
    rw [if_neg (by omega),show i+1 - 1=i from rfl,List.getElem?_eq_getElem (show i<l.length by omega)];exact c3 i hi rfl (h1 i (by omega) (by omega)) (by omega)
 ·rw [List.getElem?_eq_none hi]
  simp only;obtain ⟨j,rfl⟩:∃ j,i=j+1:=⟨i - 1,by omega⟩
  rw [show j+1 - 1=j from rfl,List.getElem?_eq_getElem (show j<l.length by omega)];exact c4 j (by omega) (by omega) rfl (h1 j (by omega) (by omega))
theorem arrT_ge {l:List (Int × Int)} (h:PO l) (t:Int):t<=ar l t:=by
 refine aT h t (fun a=>t<=a) ?_ ?_ ?_ ?_
 ·intro hi he
  have:=h.each _ (List.getElem_mem hi);omega
 ·intro hi _ _
  have:=h.each _ (List.getElem_mem hi);omega
 ·intro i hi _ ha hb
  have hp:=h.each _ (List.getElem_mem (show i<l.length by omega));have hq:=h.each _ (List.getElem_mem hi);have hn:=h.next i hi;exact interp_ge ha hb hp.2.2.1 hq.2.2.1 hn.2
 ·intro i hi _ _ _
  have:=h.each _ (List.getElem_mem hi);omega
theorem pts_mono2 {l:List (Int × Int)} (h:PO l):∀ (i j:Nat) (hi:i<l.length) (hj:j<l.length),i<=j->l[i].2<=l[j].2:=by
 intro i j hi hj hij
 induction j with
 |zero =>
  have:i=0:=by omega
  subst this;exact Int.le_refl _
 |succ j ih =>
  rcases Nat.lt_or_ge i (j+1) with h2 | h2
  ·have h3:=ih (by omega) (by omega)
   have h1:=(h.next j hj).2;omega
  ·have:i=j+1:=by omega
   subst this;exact Int.le_refl _
theorem Ib {p q:Int × Int} {t:Int} (h1:p.1<t) (h2:t<q.1) (hpq:p.2<=q.2):p.2<=p.2+((t - p.1)*(q.2 - p.2)+(q.1 - p.1) - 1).tdiv (q.1 - p.1)/\p.2+((t - p.1)*(q.2 - p.2)+(q.1 - p.1) - 1).tdiv (q.1 - p.1)<=q.2:=by
 have ha:0<=(t - p.1)*(q.2 - p.2):=Int.mul_nonneg (by omega) (by omega);have hb:(t - p.1)*(q.2 - p.2)<=(q.1 - p.1)*(q.2 - p.2):=Int.mul_le_mul_of_nonneg_right (by omega) (by omega);obtain ⟨d1,d2⟩:=Ay (a:=(t - p.1)*(q.2 - p.2)+(q.1 - p.1) - 1) (d:=q.2 - p.2) (w:=q.1 - p.1) (by omega) (by omega) (by omega);omega
theorem arrT_up {l:List (Int × Int)} (h:PO l) {t:Int} {i:Nat} (hi:i<l.length) (he:pN l t=i):ar l t<=l[i].2:=by
 subst he;refine aT h t (fun a=>a<=l[pN l t].2) ?_ ?_ ?_ ?_
 ·intro _ _;exact Int.le_refl _
 ·intro h0 e ht
  have e2:l[pN l t]=l[0]:=by simp only [e]
  rw [e2];omega
 ·intro i hi2 e ha hb
  have hn:=h.next i hi2;have e2:l[pN l t]=l[i+1]:=by simp only [e]
  rw [e2];exact (Ib ha hb hn.2).2
 ·intro i hi2 e1 e _
  omega
theorem arrT_lo {l:List (Int × Int)} (h:PO l) {t:Int} {i:Nat} (hi:i<l.length) (he:pN l t=i+1):l[i].2<=ar l t:=by
 refine aT h t (fun a=>l[i].2<=a) ?_ ?_ ?_ ?_
 ·intro hi2 _
  exact pts_mono2 h _ _ hi hi2 (by omega)
 ·intro h0 e ht;omega
 ·intro j hj e ha hb
  have:j=i:=by omega
  subst this;have hn:=h.next j hj;exact (Ib ha hb hn.2).1
 ·intro j hj _ e ht
  have:j=i:=by omega
  subst this;omega
theorem ptsN_mono:∀ (l:List (Int × Int)) {s t:Int},s<=t->pN l s<=pN l t
 |[],_,_,_=>by simp [pN]
 |a :: l,s,t,h=>by
  have ih:=ptsN_mono l h;unfold pN at *;by_cases ha:a.1<s
  ·rw [List.takeWhile_cons_of_pos (by simpa using ha),List.takeWhile_cons_of_pos (by simp;omega)]
   simp only [List.length_cons];omega
  ·rw [List.takeWhile_cons_of_neg (by simpa using ha)];simp
theorem arrT_mono {l:List (Int × Int)} (h:PO l) {s t:Int} (hst:s<=t):ar l s<=ar l t:=by
 have hm:=ptsN_mono l hst;have hsl:=Pe l s;have htl:=Pe l t;have hpos:=h.pos;rcases Nat.lt_or_ge (pN l s) (pN l t) with hlt | hge
 ·have h1:=arrT_up h (t:=s) (i:=pN l s) (by omega) rfl
  have h2:=arrT_lo h (t:=t) (i:=pN l t - 1) (by omega) (by omega);have h3:=pts_mono2 h (pN l s) (pN l t - 1) (by omega) (by omega) (by omega);omega
 ·have he:pN l s=pN l t:=by omega
  refine aT h s (fun a=>a<=ar l t) ?_ ?_ ?_ ?_
  ·intro hi hs
   obtain ⟨_,h2⟩:=Pc l t;have h3:=h2 (by omega);have e2:l[pN l t]'(by omega)=l[pN l s]:=by simp only [he]
   rw [e2] at h3;have:s=t:=by omega
   subst this;refine aT h s (fun a=>l[pN l s].2<=a) (fun _ _=>Int.le_refl _) ?_ ?_ ?_
   ·intro h0 e4 h5
    have e3:l[pN l s]=l[0]:=by simp only [e4]
    rw [e3] at hs;omega
   ·intro i hi2 e4 _ h5
    have e3:l[pN l s]=l[i+1]:=by simp only [e4]
    rw [e3] at hs;omega
   ·intro i hi2 e4 e5 _;omega
  ·intro h0 e0 hs
   refine aT h t (fun a=>s+l[0].2 - l[0].1<=a) ?_ ?_ ?_ ?_
   ·intro hi ht
    have e3:l[pN l t]=l[0]:=by simp only [<- he,e0]
    rw [e3] at ht ⊢;omega
   ·intro _ _ _;omega
   ·intro i hi2 e4 _ _;omega
   ·intro i hi2 e4 e5 _;omega
  ·intro i hi e0 ha hb
   have hn:=h.next i hi;refine aT h t (fun a=>_<=a) ?_ ?_ ?_ ?_
   ·intro hi2 ht
    have e3:l[pN l t]=l[i+1]:=by simp only [<- he,e0]
    rw [e3];exact (Ib ha hb hn.2).2
   ·intro _ e4 _;omega
   ·intro j hj e4 _ _
    have:j=i:=by omega
    subst this;have hx:(s - (l[j]'(by omega)).1)*(l[j+1].2 - (l[j]'(by omega)).2)<=(t - (l[j]'(by omega)).1)*(l[j+1].2 - (l[j]'(by omega)).2):=Int.mul_le_mul_of_nonneg_right (by omega) (by omega);have hy:0<=(s - (l[j]'(by omega)).1)*(l[j+1].2 - (l[j]'(by omega)).2):=Int.mul_nonneg (by omega) (by omega);rw [Int.tdiv_eq_ediv_of_nonneg (by omega),Int.tdiv_eq_ediv_of_nonneg (by omega)]
    have:=Int.ediv_le_ediv (show 0<l[j+1].1 - (l[j]'(by omega)).1 by omega) (show (s - (l[j]'(by omega)).1)*(l[j+1].2 - (l[j]'(by omega)).2)+(l[j+1].1 - (l[j]'(by omega)).1) - 1<=(t - (l[j]'(by omega)).1)*(l[j+1].2 - (l[j]'(by omega)).2)+(l[j+1].1 - (l[j]'(by omega)).1) - 1 by omega);omega
   ·intro j hj e5 e4 _;omega
  ·intro i hi e5 e0 hs
   refine aT h t (fun a=>s+l[i].2 - l[i].1<=a) ?_ ?_ ?_ ?_
   ·intro hi2 ht;omega
   ·intro _ e4 _;omega
   ·intro j hj e4 _ _;omega
   ·intro j hj e4 e6 _
    have:j=i:=by omega
    subst this;omega
theorem Dm:∀ (l:List (Int × Int)) {s t:Int},(∀ p ∈ l,iT p.2)->s<=t->SS l s<=SS l t
 |[],_,_,_,_=>by simp [SS]
 |a :: l,s,t,h,hst=>by
  have ih:=Dm l (fun p hp=>h p (by simp [hp])) hst;have ha:=h a (by simp);unfold iT at ha;have e:∀ u,SS (a :: l) u=(if a.1<=u then a.2 else 0)+SS l u:=fun u=>by simp [SS]
  rw [e,e];by_cases h1:a.1<=s
  ·rw [if_pos h1,if_pos (by omega)];omega
  ·rw [if_neg h1]
   split <;> omega
theorem arrA_ge {a:ArcV} (h:AK a) (t:Int):t<=Cq a t:=by
 have h1:=arrT_ge h.trav t;have h2:=(Sd a.slow t fun p hp=>(h.slow.each p hp).2).1;unfold Cq;omega
theorem arrA_mono {a:ArcV} (h:AK a) {s t:Int} (hst:s<=t):Cq a s<=Cq a t:=by
 have h1:=arrT_mono h.trav hst;have h2:=Dm a.slow (fun p hp=>(h.slow.each p hp).2) hst;unfold Cq;omega
theorem goP_same (x:IV) (prof frm tgt s t:Int):(gP x prof frm tgt s).2=(gP x prof frm tgt t).2:=by
 unfold gP;split
 ·rfl
 ·split
  ·rfl
  ·cases x.arcs.find? fun a=>a.frm == frm && a.tgt == tgt && a.prof == prof with
   |none=>rfl
   |some a=>rfl
theorem goP_ge {x:IV} (h:IK x) {prof frm tgt t:Int} (h0:(gP x prof frm tgt t).2.2=0):t<=(gP x prof frm tgt t).1:=by
 unfold gP at h0 ⊢;split at h0
 ·cases h0
 ·rename_i h1
  rw [if_neg h1];split at h0
  ·rename_i h2
   rw [if_pos h2];exact Int.le_refl _
  ·rename_i h2
   rw [if_neg h2]
   cases hf:x.arcs.find? fun a=>a.frm == frm && a.tgt == tgt && a.prof == prof with
   |none=>rw [hf] at h0;cases h0
   |some a=>exact arrA_ge (h.arcs a (List.mem_of_find?_eq_some hf)) t
theorem goP_mono {x:IV} (h:IK x) {prof frm tgt s t:Int} (hst:s<=t):(gP x prof frm tgt s).1<=(gP x prof frm tgt t).1:=by
 unfold gP;split
 ·exact Int.le_refl _
 ·split
  ·exact hst
  ·cases hf:x.arcs.find? fun a=>a.frm == frm && a.tgt == tgt && a.prof == prof with
   |none=>exact Int.le_refl _
   |some a=>exact arrA_mono (h.arcs a (List.mem_of_find?_eq_some hf)) hst
def milesP (p:Tr):Nat->Int
 |0=>0
 |k+1=>milesP p k+(gP p.x p.t.prof (pP p k) (EP p k) 0).2.1
theorem ni {p:Tr} {l l':LV} {k:Nat} {b:Bool} {z:Int} (hn:nP p l k b=(some l',z)) :
  ∃ g m,gP p.x p.t.prof (pP p k) (EP p k) (l.ready+if b then p.t.rest else 0)=(g,m,0)/\(if b then 0 else l.since)+g - (l.ready+if b then p.t.rest else 0)<=p.t.drive /\
   l'.since=(if b then 0 else l.since)+g - (l.ready+if b then p.t.rest else 0)/\l'.sh.miles=l.sh.miles+m /\
   match p.stops[k]? with
   |none=>g<=p.t.cls/\l'.ready=g/\l'.sh.fin=g
   |some s=>max g s.opn<=s.cls/\l'.ready=max g s.opn+s.serv/\l'.sh.fin=l.sh.fin:=by
 obtain ⟨hmi,hfi⟩:=SD l.sh k b (l.ready+if b then p.t.rest else 0);unfold nP at hn;unfold EP;simp only at hn;generalize l.ready+(if b then p.t.rest else 0)=dep at *;generalize (if b then 0 else l.since)=sn at *
 cases hst:p.stops[k]? with
 |none =>
  rw [hst] at hn;simp only at hn ⊢;generalize gP p.x p.t.prof (pP p k) p.t.tgt dep=G at *;obtain ⟨g,m,e⟩:=G;simp only at hn;split at hn
  ·cases hn
  rename_i g1;split at hn
  ·cases hn
  split at hn
  ·cases hn
  injection hn with hn _
  injection hn with hn
  subst hn;have:e=0:=by simpa using g1
  subst this;exact ⟨g,m,rfl,by omega,rfl,by simp only;rw [hmi],by omega,rfl,rfl⟩
 |some s =>
  rw [hst] at hn;simp only at hn ⊢;generalize gP p.x p.t.prof (pP p k) s.place dep=G at *;obtain ⟨g,m,e⟩:=G;simp only at hn;split at hn
  ·cases hn
  rename_i g1;split at hn
  ·cases hn
  split at hn
  ·cases hn
  injection hn with hn _
  injection hn with hn
  subst hn;have:e=0:=by simpa using g1
  subst this;exact ⟨g,m,rfl,by omega,rfl,by simp only;rw [hmi],by omega,rfl,hfi⟩
theorem rT {p:Tr} {cs:List Bool} {b:Bool} {l:LV} {z:Int} (h:rP p (cs ++ [b])=(some l,z)):∃ l1 z1,rP p cs=(some l1,z1)/\∃ z2,nP p l1 cs.length b=(some l,z2):=by
 unfold rP at h ⊢;rw [Rc] at h
 cases hq:rF p (L0 p) 0 cs with
 |mk o e1 =>
  rw [hq] at h
  cases o with
  |none=>simp at h
  |some l1 =>
   simp only at h;rw [Nat.zero_add] at h
   cases hx:nP p l1 cs.length b with
   |mk o2 e2 =>
    rw [hx] at h
    cases o2 with
    |none=>simp at h
    |some l2 =>
     simp only at h;injection h with h _
     injection h with h
     subst h;exact ⟨l1,e1,rfl,e2,hx⟩
theorem So {cs:List Bool} {k:Nat} (h:cs.length=k+1):∃ ds b,cs=ds ++ [b]/\ds.length=k:=by
 refine ⟨cs.dropLast,cs.getLast (by intro e;rw [e] at h;cases h),(List.dropLast_concat_getLast _).symm,?_⟩;rw [List.length_dropLast];omega
theorem run_time {p:Tr} (h:TK p):∀ (k:Nat) (cs:List Bool) (l:LV) (z:Int),cs.length=k->rP p cs=(some l,z)->p.t.opn<=l.ready/\l.sh.miles=milesP p k
 |0,cs,l,z,hc,hr=>by
  have:cs=[]:=List.length_eq_zero_iff.1 hc;subst this;unfold rP at hr;rw [rF] at hr;injection hr with hr _
  injection hr with hr
  subst hr;exact ⟨by unfold L0;simp only;omega,rfl⟩
 |k+1,cs,l,z,hc,hr=>by
  obtain ⟨ds,b,rfl,hd⟩:=So hc;obtain ⟨l1,z1,hr1,z2,hn⟩:=rT hr;obtain ⟨h1,h2⟩:=run_time h k ds l1 z1 hd hr1;rw [hd] at hn;obtain ⟨g,m,hg,_,_,hm,hs⟩:=ni hn;have hge:=goP_ge h.x (prof:=p.t.prof) (frm:=pP p k) (tgt:=EP p k) (t:=l1.ready+if b then p.t.rest else 0) (by rw [hg]);rw [hg] at hge;have hrest:=h.t.rest.1
  have hdep:l1.ready<=l1.ready+(if b then p.t.rest else 0):=by split <;> omega
  have hmi:=goP_same p.x p.t.prof (pP p k) (EP p k) (l1.ready+if b then p.t.rest else 0) 0;rw [hg] at hmi;refine ⟨?_,by rw [hm,h2,milesP,<- hmi]⟩;simp only at hge
  cases hst:p.stops[k]? with
  |none=>rw [hst] at hs;simp only at hs;omega
  |some s =>
   rw [hst] at hs;simp only at hs;have:=Sl (h.stops s (List.mem_of_getElem? hst));omega
theorem run_fin {p:Tr} (h:TK p) {cs:List Bool} {l:LV} {z:Int} (hc:cs.length=p.stops.length+1) (hr:rP p cs=(some l,z)):l.ready=l.sh.fin/\p.t.opn<=l.sh.fin/\l.sh.miles=milesP p (p.stops.length+1):=by
 obtain ⟨h1,h2⟩:=run_time h _ cs l z hc hr;obtain ⟨ds,b,rfl,hd⟩:=So hc;obtain ⟨l1,z1,hr1,z2,hn⟩:=rT hr;obtain ⟨g,m,_,_,_,_,hs⟩:=ni hn;rw [hd,List.getElem?_eq_none (Nat.le_refl _)] at hs;simp only at hs;exact ⟨by omega,by omega,h2⟩
def wV (v:Sc):Int:=((v.cost*16+v.moved)*16+v.other)*65536+v.work
structure ScoOK (v:Sc):Prop where
 cost:0<=v.cost/\v.cost<=1073741824
 moved:0<=v.moved/\v.moved<16
 other:0<=v.other/\v.other<16
 work:0<=v.work/\v.work<65536
theorem scoreP_ok {x:IV} {d:Int} {t:TV} (ht:TO t) (hx:TX d t) {kind:Int} {vs:List (Int × Bool)} (hv:vs.length<=8) {fin miles:Int} (hf:t.opn<=fin/\fin<=4096) (hm:0<=miles/\miles<=1000000):ScoOK (sP x t kind vs fin miles):=by
 have h1:=ht.opn;have h2:=CK (MF x kind) vs vs.length;have h3:=CK (oT x kind) vs vs.length;have h4:=tdiv64 (a:=fin - t.opn) (by omega);have h5:=sq_bnd h4;have h6:=hx.fixed;have h7:0<=t.mile*miles:=Int.mul_nonneg hx.mile.1 hm.1;have h8:t.mile*miles<=100*1000000:=Int.mul_le_mul hx.mile.2 hm.2 hm.1 (by decide);have h9:0<=t.tick*(fin - t.opn):=Int.mul_nonneg hx.tick.1 (by omega)
 have h10:t.tick*(fin - t.opn)<=100*4096:=Int.mul_le_mul hx.tick.2 (by omega) (by omega) (by decide);unfold sP;exact ⟨by simp only;omega,by simp only;omega,by simp only;omega,by simp only;omega⟩
theorem wm {x:IV} {d:Int} {t:TV} (hx:TX d t) {kind:Int} {vs us:List (Int × Bool)} (e1:cK (MF x kind) vs vs.length=cK (MF x kind) us us.length) (e2:cK (oT x kind) vs vs.length=cK (oT x kind) us us.length)
  {f1 f2 m1 m2:Int} (h0:t.opn<=f1) (hf:f1<=f2) (hm:m1<=m2):wV (sP x t kind vs f1 m1)<=wV (sP x t kind us f2 m2):=by
 have h1:t.mile*m1<=t.mile*m2:=Int.mul_le_mul_of_nonneg_left hm hx.mile.1;have h2:t.tick*(f1 - t.opn)<=t.tick*(f2 - t.opn):=Int.mul_le_mul_of_nonneg_left (by omega) hx.tick.1;have h3:0<=(f1 - t.opn).tdiv 64:=by rw [Int.tdiv_eq_ediv_of_nonneg (by omega)];omega
 have h4:(f1 - t.opn).tdiv 64<=(f2 - t.opn).tdiv 64:=by rw [Int.tdiv_eq_ediv_of_nonneg (by omega),Int.tdiv_eq_ediv_of_nonneg (by omega)];omega
 have h5:(f1 - t.opn).tdiv 64*(f1 - t.opn).tdiv 64<=(f2 - t.opn).tdiv 64*(f2 - t.opn).tdiv 64:=Int.mul_le_mul h4 h4 h3 (by omega);unfold wV sP;simp only;rw [e1,e2];omega
end Tk
end Go.Proofs.YtjcekdiocliddaaGreatDoor
namespace Go.Proofs.YtjcekdiocliddaaGreatDoor
open Lib (hid)
open Go.RowKit Num Txt Pf Tk
set_option maxHeartbeats 32000000
set_option maxRecDepth 100000
set_option linter.unusedVariables false
attribute [local go_sem] BS Bg Bt Bm Be Ba
def DV (s:St) (t:Int):Int:=if max t s.opn > s.cls then 0 else max t s.opn+s.serv
def dE (s:St) (t:Int):Int:=if max t s.opn > s.cls then 14 else 0
theorem wY (s:St) (t:Int) (w:World) (hs:SK s) (ht:0<=t/\t<=1000000) :
  Calls Tryz.prog 133 #[Dk s,.int .i64 t] w fun e w'=>e=.returned (.tuple #[.int .i64 (DV s t),.int .i64 (dE s t)])/\Below w.heap.size w w':=by
 have hso:=Sl hs;obtain ⟨n4,p4⟩:=Na w (.cells (SR s) 134);have HN4:=hid n4;have HP4:=hid p4;have y3:=CX p4 3 (.int .i64 s.serv) rfl;have HBG:=hid (fun w'=>Dh s t w');clear n4 p4;go_enter Tryz.func133,Tryz.ntmps133;(try simp only [Bm]);go_upto_region 1 with fail
 rw [show w.alloc (.cells #[.int .i64 s.place,.int .i64 s.opn,.int .i64 s.cls,.int .i64 s.serv] 134)=w.alloc (.cells (SR s) 134) from rfl];generalize w.alloc (.cells (SR s) 134)=wa at *;obtain ⟨h1,hh1⟩:∃ h1,h1=w.heap.size:=⟨_,rfl⟩
 rw [<- hh1] at HP4 y3;rw [<- hh1];clear hh1;have HY:=hid y3;clear y3;go_wp2_with (refine lr HP4.out Tryz.underlying134 ?_)
 refine (HBG.out wa).mono ?_;rintro e w1 ⟨rfl,hb1⟩;have y3:=(hb1.cell (p:=⟨h1,3,none⟩) (lh HP4.out)).trans HY.out;have HB1:=hid (HN4.out.trans (hb1.mono HN4.out.size));clear hb1 HBG;by_cases hgt:max t s.opn > s.cls
 ·have HV:=hid (show DV s t=0/\dE s t=14 by unfold DV dE;rw [if_pos hgt,if_pos hgt];exact ⟨rfl,rfl⟩)
  rw [if_pos hgt,if_pos hgt];clear hgt;go_wp2_with fail;go_ret2;exact ⟨by rw [HV.out.1,HV.out.2];rfl,HB1.out⟩
 ·have HV:=hid (show DV s t=max t s.opn+s.serv/\dE s t=0 by unfold DV dE;rw [if_neg hgt,if_neg hgt];exact ⟨rfl,rfl⟩)
  rw [if_neg hgt,if_neg hgt];have hmx:0<=max t s.opn/\max t s.opn<=4096:=by omega
  clear hgt;generalize max t s.opn=g at *;go_wp2_with fail;go_ret2;exact ⟨by rw [HV.out.1,HV.out.2];rfl,HB1.out⟩
theorem ld_arr4 {w:World} {g:Nat} {a b c d:Value} {t:TypeId} (h:w.heap[g]? = some (.cells #[a,b,c,d] t)):(loadVar 179 ⟨g,0,none⟩).run Tryz.prog w=.ok (.agg #[a,b,c,d]) w:=run_loadVar_row (P:=Tryz.prog) w g t 179 #[a,b,c,d] _ _ h Tryz.underlying179 rfl (by kernel_rfl)
theorem psplit_any (v:Sc) (w:World) :
  Calls Tryz.prog 86 #[.agg (sR v)] w fun e w'=>e=.returned (.agg (sR v))/\Below w.heap.size w w':=by
 obtain ⟨k1,k2,k3⟩:=aL w (.cells (sR v) 41) (.cells #[.int .i64 0,.int .i64 0,.int .i64 0,.int .i64 0] 179);have HB:=hid k3;have HK1:=hid k1;have HK2:=hid k2;clear k1 k2 k3;go_enter Tryz.func86,Tryz.ntmps86;(try simp only [Bm]);go_upto_region 1 with fail;generalize (w.alloc (.cells (sR v) 41)).alloc (.cells #[.int .i64 0,.int .i64 0,.int .i64 0,.int .i64 0] 179)=wa at *
 obtain ⟨h1,hh1⟩:∃ h1,h1=w.heap.size:=⟨_,rfl⟩
 obtain ⟨h2,hh2⟩:∃ h2,h2=w.heap.size+1:=⟨_,rfl⟩
 have HG:=hid (show w.heap.size<=h2 by omega);rw [<- hh2] at HK2;rw [<- hh1] at HK1;rw [<- hh2,<- hh1];clear hh1 hh2;have x0:=CX HK1.out 0 (.int .i64 v.cost) rfl;have x1:=CX HK1.out 1 (.int .i64 v.moved) rfl;have x2:=CX HK1.out 2 (.int .i64 v.other) rfl;have x3:=CX HK1.out 3 (.int .i64 v.work) rfl
 have hbt:=(show Tryz.prog.built 179 [(0,.int .i64 v.cost),(1,.int .i64 v.moved),(2,.int .i64 v.other),(3,.int .i64 v.work)]=some (sR v) by kernel_rfl)
 go_wp2_with (refine wpList_store_row rfl 179 _ _ rfl h2 (sR v) rfl rfl 179 _ HK2.out (by kernel_rfl) rfl (by kernel_rfl) ?_)
 obtain ⟨hq,hb⟩:=rS (sR v) HK2.out HB.out HG.out;refine bodyPost_ret (Rr rfl (ld_arr4 hq) rfl) rfl ?_;exact ⟨rfl,hb⟩
theorem pw (v:Sc) (w:World) (hv:ScoOK v) :
  Calls Tryz.prog 36 #[.agg (sR v)] w fun e w'=>e=.returned (.tuple #[.int .i64 (wV v),.int .i64 0])/\Below w.heap.size w w':=by
 obtain ⟨n4,p4⟩:=Na w (.cells (sR v) 41);have HN4:=hid n4;have HP4:=hid p4;have hc:=hv.cost;have hm:=hv.moved;have ho:=hv.other;have hw:=hv.work;have HWV:=hid (show wV v=((v.cost*16+v.moved)*16+v.other)*65536+v.work from rfl);have HSP:=hid (fun w'=>psplit_any v w');clear n4 p4 hv;go_enter Tryz.func36,Tryz.ntmps36;(try simp only [Bm]);go_upto_region 1 with fail
 generalize w.alloc (.cells (sR v) 41)=wa at *;obtain ⟨h1,hh1⟩:∃ h1,h1=w.heap.size:=⟨_,rfl⟩
 rw [<- hh1] at HP4;rw [<- hh1];clear hh1;go_wp2_with (refine lr HP4.out Tryz.underlying41 ?_)
 refine (HSP.out wa).mono ?_;rintro e w1 ⟨rfl,hb1⟩;have HB1:=hid hb1;have HP41:=hid (rK HP4.out hb1);clear hb1 HSP;obtain ⟨n5,p5⟩:=Na w1 (.cells #[.int .i64 0,.int .i64 0,.int .i64 0,.int .i64 0] 179);obtain ⟨q5,b5⟩:=nS w1 #[.int .i64 0,.int .i64 0,.int .i64 0,.int .i64 0] (sR v) 179;have HQ5:=hid q5;have HB5:=hid (bL HB1.out b5)
 have HK5:=hid (rK HP41.out b5);go_upto_region 2 with (refine wpList_store_row rfl 179 _ _ rfl w1.heap.size (sR v) rfl rfl 179 _ p5 (by kernel_rfl) rfl (by kernel_rfl) ?_)
 (try simp only [Act.put]);generalize (w1.alloc (.cells #[.int .i64 0,.int .i64 0,.int .i64 0,.int .i64 0] 179)).setRow w1.heap.size (sR v)=w2 at *;obtain ⟨h5,hh5⟩:∃ h5,h5=w1.heap.size:=⟨_,rfl⟩
 rw [<- hh5] at HQ5;rw [<- hh5];clear hh5 n5 p5 q5 b5;have x0:=CX HK5.out 0 (.int .i64 v.cost) rfl;have x1:=CX HK5.out 1 (.int .i64 v.moved) rfl;have x2:=CX HK5.out 2 (.int .i64 v.other) rfl;have x3:=CX HK5.out 3 (.int .i64 v.work) rfl;go_wp2_with (refine wpList_load_row rfl 179 _ rfl h5 rfl 179 _ _ _ HQ5.out Tryz.underlying179 rfl (by kernel_rfl) ?_)
 have i0:∀ w:World,(Instr.index 179 (.agg #[.int .i64 v.cost,.int .i64 v.moved,.int .i64 v.other,.int .i64 v.work]) (.int .i64 0)).run Tryz.prog w=.ok (.int .i64 v.cost) w:=fun _=>by kernel_rfl
 have i1:∀ w:World,(Instr.index 179 (.agg #[.int .i64 v.cost,.int .i64 v.moved,.int .i64 v.other,.int .i64 v.work]) (.int .i64 1)).run Tryz.prog w=.ok (.int .i64 v.moved) w:=fun _=>by kernel_rfl
 have i2:∀ w:World,(Instr.index 179 (.agg #[.int .i64 v.cost,.int .i64 v.moved,.int .i64 v.other,.int .i64 v.work]) (.int .i64 2)).run Tryz.prog w=.ok (.int .i64 v.other) w:=fun _=>by kernel_rfl
 have i3:∀ w:World,(Instr.index 179 (.agg #[.int .i64 v.cost,.int .i64 v.moved,.int .i64 v.other,.int .i64 v.work]) (.int .i64 3)).run Tryz.prog w=.ok (.int .i64 v.work) w:=fun _=>by kernel_rfl
 unfold sR;go_loopw [10] (fun j wr=>∃ k:Nat,k<=4/\j=.int .i64 k/\wr=w2) (fun j _=>4 - (intOf j).toNat)
 case atStart=>exact ⟨0,by omega,rfl,rfl⟩
 case round =>
  obtain ⟨k,hk,rfl,hwr⟩:=hrel;subst hwr;have hcs:k=0∨k=1∨k=2∨k=3∨k=4:=by omega
  rcases hcs with rfl | rfl | rfl | rfl | rfl
  ·go_wp2_with fail
   go_roundw
   case rel=>exact ⟨1,by omega,rfl,trivial⟩
   case measure=>simp [intOf]
  ·go_wp2_with fail
   go_roundw
   case rel=>exact ⟨2,by omega,rfl,trivial⟩
   case measure=>simp [intOf]
  ·go_wp2_with fail
   go_roundw
   case rel=>exact ⟨3,by omega,rfl,trivial⟩
   case measure=>simp [intOf]
  ·go_wp2_with fail
   go_roundw
   case rel=>exact ⟨4,by omega,rfl,trivial⟩
   case measure=>simp [intOf]
  ·go_wp2_with fail
   go_ret2;exact ⟨by rw [HWV.out];rfl,HN4.out.trans (HB5.out.mono HN4.out.size)⟩
def PI (x:IV) (r:RV) (n:Int):Prop:=∃ p s,PlanIs x r p/\BE p s/\MinS p s/\GR x p.t r/\n=wV (sP x p.t r.kind r.vis s.fin s.miles)
def NoPrice (x:IV) (r:RV):Prop:=NR x r∨∀ t,¬ GR x t r
def PriceE (x:IV) (r:RV) (w:World) (e:Ending) (w':World):Prop:=∃ n k:Int,e=.returned (.tuple #[.int .i64 n,.int .i64 k])/\(k=0->PI x r n)/\(k≠0->NoPrice x r)/\Below w.heap.size w w'
theorem Tk.PlanIs.typX {x:IV} {r:RV} {p:Tr} (h:PlanIs x r p) (hok:IK x):TX (dV x) p.t:=hok.typesX _ (List.mem_of_getElem? h.t)
theorem price_ok {m:IM} {r:RM} {p:Tr} {s:SV} (hok:IK m.v) (hv8:r.r.vis.length<=8) (hp:PlanIs m.v r.r p) (hs:BE p s):ScoOK (sP m.v p.t r.r.kind r.r.vis s.fin s.miles):=by
 have h1:=best_bnd hok hv8 hp hs;have ht:=hp.ok hok;obtain ⟨cs,l,hc,hr,rfl,_,_⟩:=hs.run;have h2:=Tk.run_fin ht hc hr;exact scoreP_ok ht.t (hp.typX hok) hv8 ⟨h2.2.1,h1.1.2⟩ h1.2
theorem rprice_any (m:IM) (r:RM) (w:World) (hm:IA w m) (hok:IK m.v) (hml:m.ords.length<=3) (hr:Rt w r) (hv8:r.r.vis.length<=8) (hT:Tb w) :
  Calls Tryz.prog 13 #[iA m,ro r] w (PriceE m.v r.r w):=by
 obtain ⟨k1,k2,kb⟩:=aL w (.cells (iQ m) 30) (.cells (rR r) 34);have HB:=hid kb;have HK1:=hid k1;have HK2:=hid k2;have HEV:=hid (fun w' (hb:Below w.heap.size w w')=>evaluate_any m r w' (hm.below hb) hok hml (hr.below hb) hv8 (hT.below hb));have HOK:=hid (fun p s (hp:PlanIs m.v r.r p) (hs:BE p s)=>price_ok hok hv8 hp hs)
 have HWT:=hid (fun v w' (h:ScoOK v)=>pw v w' h);clear k1 k2 kb hm hr hT hok;go_enter Tryz.func13,Tryz.ntmps13;(try simp only [Bm]);go_upto_region 1 with fail;rw [iq,rq];generalize (w.alloc (.cells (iQ m) 30)).alloc (.cells (rR r) 34)=wa at *;obtain ⟨h1,hh1⟩:∃ h1,h1=w.heap.size:=⟨_,rfl⟩
 obtain ⟨h2,hh2⟩:∃ h2,h2=w.heap.size+1:=⟨_,rfl⟩
 rw [<- hh2] at HK2;rw [<- hh1] at HK1;rw [<- hh2,<- hh1];clear hh1 hh2;go_wp2_with (first | (refine lr HK1.out Tryz.underlying30 ?_) | (refine lr HK2.out Tryz.underlying34 ?_))
 refine (HEV.out wa HB.out).mono ?_;rintro e w1 ⟨A,c,s,v,k,rfl,hyes,hno,hb1⟩;have HB1:=hid (bL HB.out hb1);have HYES:=hid hyes;have HNO:=hid hno;clear hb1 hyes hno HEV;obtain ⟨j1,j2,jb⟩:=aL w1 (.cells #[.bool false,.int .i64 0,.slice none 0 0,.int .i64 0,.int .i64 0] 39) (.cells #[.int .i64 0,.int .i64 0,.int .i64 0,.int .i64 0] 41)
 have hne:w1.heap.size+1≠w1.heap.size:=by omega
 obtain ⟨q1,b1⟩:=rS (sQ A c s) j1 jb (Nat.le_refl _);have j3:(((w1.alloc (.cells #[.bool false,.int .i64 0,.slice none 0 0,.int .i64 0,.int .i64 0] 39)).alloc (.cells #[.int .i64 0,.int .i64 0,.int .i64 0,.int .i64 0] 41)).setRow w1.heap.size (sQ A c s)).heap[w1.heap.size+1]? = some (.cells #[.int .i64 0,.int .i64 0,.int .i64 0,.int .i64 0] 41):=(setRow_other _ _ _ _ hne).trans j2
 obtain ⟨q2,b2⟩:=rS (sR v) j3 b1 (by omega);have HJ1:=hid j1;have HJ3:=hid j3;have HQ2:=hid q2;have HB2:=hid (bL HB1.out b2);clear j1 j2 j3 jb q1 q2 b1 b2;go_upto_region 2 with (first | (refine sw (sQ A c s) HJ1.out ?_) | (refine sw (sR v) HJ3.out ?_))
 (try simp only [Act.put]);generalize (((w1.alloc (.cells #[.bool false,.int .i64 0,.slice none 0 0,.int .i64 0,.int .i64 0] 39)).alloc (.cells #[.int .i64 0,.int .i64 0,.int .i64 0,.int .i64 0] 41)).setRow w1.heap.size (sQ A c s)).setRow (w1.heap.size+1) (sR v)=w2 at *;obtain ⟨h7,hh7⟩:∃ h7,h7=w1.heap.size+1:=⟨_,rfl⟩
 rw [<- hh7] at HQ2;rw [<- hh7];clear hh7 hne HJ1 HJ3;by_cases hk:k=0
 ·subst hk
  obtain ⟨_,p,hp,hs,hmin,hgood,hv⟩:=HYES.out rfl;have HSC:=hid (HOK.out p s hp hs);have HFIN:=hid (show PI m.v r.r (wV v) from ⟨p,s,hp,hs,hmin,hgood,by rw [hv]⟩);rw [<- hv] at HSC;clear hp hs hmin hgood hv HYES HNO;go_wp2_with (refine lr HQ2.out Tryz.underlying41 ?_)
  refine (HWT.out v w2 HSC.out).mono ?_;rintro e w3 ⟨rfl,hb3⟩;have HB3:=hid (bL HB2.out hb3);clear hb3;go_wp2_with fail;go_ret2;exact ⟨_,0,rfl,fun _=>HFIN.out,fun h=>absurd rfl h,HB3.out⟩
 ·have hkb:=ib hk
  have HFIN:=hid (HNO.out hk);have HK:=hid hk;clear hk HYES HNO;go_wp2_with fail;go_ret2;exact ⟨0,k,rfl,fun h=>absurd h HK.out,fun _=>HFIN.out,HB2.out⟩
inductive Path (n:Nat) (bs:List (Int × Int)):Nat->Nat->Prop
 |one {a b:Nat}:((a:Int),(b:Int)) ∈ bs->a<n->b<n->Path n bs a b
 |step {a b c:Nat}:Path n bs a b->((b:Int),(c:Int)) ∈ bs->b<n->c<n->Path n bs a c
def iL (L:List Nat):List Int:=L.map fun s:Nat=>(s:Int)
theorem iL_len (L:List Nat):(iL L).length=L.length:=List.length_map ..
structure Mat (n:Nat) (bs:List (Int × Int)) (L:List Nat):Prop where
 len:L.length=n
 lt:∀ b,L.getD b 0<8
 sound:∀ b,b<n->∀ a,(L.getD b 0).testBit a=true->Path n bs a b
def Clo (n:Nat) (bs:List (Int × Int)) (L:List Nat) (k:Nat):Prop:=∀ i (h:i<bs.length),i<k->∀ a b:Nat,bs[i]=((a:Int),(b:Int))->a<n->b<n->L.getD b 0 ||| L.getD a 0 ||| 1 <<< a=L.getD b 0
theorem or3_bit:∀ s,s<8->∀ t,t<8->∀ a,a<3->bits BinOp.or IntKind.i64 (bits BinOp.or IntKind.i64 ((s:Nat):Int) ((t:Nat):Int)) (wrap64 (2 ^ a))=((s ||| t ||| 1 <<< a:Nat):Int):=by decide +kernel
theorem or3_lt {s t a:Nat} (hs:s<8) (ht:t<8) (ha:a<3):s ||| t ||| 1 <<< a<8:=by
 refine Nat.or_lt_two_pow (n:=3) (Nat.or_lt_two_pow (n:=3) hs ht) ?_;rw [Nat.one_shiftLeft];exact Nat.pow_lt_pow_right (by decide) ha
theorem or3_ge (s t a:Nat):s<=s ||| t ||| 1 <<< a:=Nat.le_trans Nat.left_le_or Nat.left_le_or
theorem getD_set (L:List Nat) (b v i:Nat) (hb:b<L.length):(L.set b v).getD i 0=if i=b then v else L.getD i 0:=by
 rw [List.getD_eq_getElem?_getD,List.getElem?_set];by_cases e:b=i
 ·subst e;rw [if_pos rfl,if_pos rfl,if_pos hb];rfl
 ·rw [if_neg e,if_neg (fun h=>e h.symm),List.getD_eq_getElem?_getD]
theorem Mat.zero {n:Nat} {bs:List (Int × Int)}:Mat n bs (List.replicate n 0):=by
 have h:∀ b,(List.replicate n 0).getD b 0=0:=fun b=>by
  rw [List.getD_eq_getElem?_getD,List.getElem?_replicate];split <;> rfl
 exact ⟨by simp,fun b=>by rw [h];decide,fun b _ a h2=>by rw [h] at h2;simp at h2⟩
theorem Mat.set {n:Nat} {bs:List (Int × Int)} {L:List Nat} {a b:Nat} (h:Mat n bs L) (hm:((a:Int),(b:Int)) ∈ bs) (ha:a<n) (hb:b<n) (hn:n<=3):Mat n bs (L.set b (L.getD b 0 ||| L.getD a 0 ||| 1 <<< a)):=by
 refine ⟨by rw [List.length_set];exact h.len,fun i=>?_,fun i hi c hc=>?_⟩
 ·rw [getD_set _ _ _ _ (by rw [h.len];exact hb)]
  split
  ·exact or3_lt (h.lt b) (h.lt a) (by omega)
  ·exact h.lt i
 ·rw [getD_set _ _ _ _ (by rw [h.len];exact hb)] at hc
  by_cases e:i=b
  ·subst e
   rw [if_pos rfl,Nat.testBit_or,Nat.testBit_or,Bool.or_eq_true,Bool.or_eq_true] at hc;rcases hc with (hc | hc) | hc
   ·exact h.sound i hi c hc
   ·exact Path.step (h.sound a ha c hc) hm ha hb
   ·rw [Nat.one_shiftLeft,Nat.testBit_two_pow] at hc
    have:a=c:=by simpa using hc
    subst this;exact Path.one hm ha hb
  ·rw [if_neg e] at hc
   exact h.sound i hi c hc
theorem Mat.iff {n:Nat} {bs:List (Int × Int)} {L:List Nat} (h:Mat n bs L) (hc:Clo n bs L bs.length) {a b:Nat} (hb:b<n):(L.getD b 0).testBit a=true↔Path n bs a b:=by
 refine ⟨h.sound b hb a,fun hp=>?_⟩
 have key:∀ {a b:Nat},Path n bs a b->(L.getD b 0).testBit a=true:=by
  intro a b hp
  induction hp with
  |one hm ha hb =>
   obtain ⟨i,hi,e⟩:=List.getElem_of_mem hm;have:=hc i hi hi _ _ e ha hb;rw [<- this,Nat.testBit_or,Nat.one_shiftLeft,Nat.testBit_two_pow];simp
  |step _ hm hb hc2 ih =>
   obtain ⟨i,hi,e⟩:=List.getElem_of_mem hm;have:=hc i hi hi _ _ e hb hc2;rw [<- this,Nat.testBit_or,Nat.testBit_or,ih];simp
 exact key hp
theorem Clo.next {n:Nat} {bs:List (Int × Int)} {L:List Nat} {k:Nat} (h:Clo n bs L k) (hk:k<bs.length) (h2:∀ a b:Nat,bs[k]=((a:Int),(b:Int))->a<n->b<n->L.getD b 0 ||| L.getD a 0 ||| 1 <<< a=L.getD b 0):Clo n bs L (k+1):=by
 intro i hi hik a b e ha hb;by_cases e2:i=k
 ·subst e2;exact h2 a b e ha hb
 ·exact h i hi (by omega) a b e ha hb
theorem sum_le:∀ (L:List Nat),(∀ b,L.getD b 0<8)->L.sum<=7*L.length
 |[],_=>by simp
 |a :: L,h=>by
  have h1:=h 0;have h2:=sum_le L fun b=>by have:=h (b+1);simpa using this
  simp at h1
  rw [List.sum_cons,List.length_cons];omega
theorem sum_set:∀ (L:List Nat) (b v:Nat),b<L.length->L.getD b 0<v->L.sum<(L.set b v).sum
 |[],b,v,h,_=>absurd h (by simp)
 |a :: L,0,v,_,h=>by
  simp at h
  rw [List.set_cons_zero,List.sum_cons,List.sum_cons];omega
 |a :: L,b+1,v,h,h2=>by
  have:=sum_set L b v (by simpa using h) (by simpa using h2);rw [List.set_cons_succ,List.sum_cons,List.sum_cons];omega
theorem iL_set (L:List Nat) (k v:Nat):(ints (iL L)).toArray.setIfInBounds k (.int .i64 (v:Int))=(ints (iL (L.set k v))).toArray:=by
 rw [ints_set];unfold iL;rw [List.map_set]
theorem iL_get {L:List Nat} {k:Nat} (h:k<L.length):(ints (iL L)).toArray[k]? = some (.int .i64 (L.getD k 0:Nat)):=by
 rw [List.getElem?_toArray];unfold ints iL;rw [List.getElem?_map,List.getElem?_map,List.getD_eq_getElem?_getD,List.getElem?_eq_getElem h];rfl
def ChainE (n:Nat) (bs:List (Int × Int)) (w:World) (e:Ending) (w':World):Prop:=∃ (A:Option Addr) (c:Nat) (L:List Nat),e=.returned (.slice A n c)/\Ao w' w.heap.size A c (iL L)/\Mat n bs L/\Clo n bs L bs.length/\Below w.heap.size w w'
def sumAt (w:World) (g:Nat):Nat:=match w.heap[g]? with
 |some (.cells cs _ _)=>(cs.toList.map fun v=>(intOf v).toNat).sum
 |_=>0
theorem sumAt_of {w:World} {g:Nat} {L:List Nat} (h:w.heap[g]? = some (.cells (ints (iL L)).toArray 3)):sumAt w g=L.sum:=by
 unfold sumAt;rw [h];simp only
 have e:∀ L:List Nat,((ints (iL L)).map fun v=>(intOf v).toNat)=L:=by
  intro L
  induction L with
  |nil=>rfl
  |cons a L ih =>
   have:ints (iL (a :: L))=.int .i64 (a:Int) :: ints (iL L):=rfl;rw [this,List.map_cons,ih];rfl
 rw [e]
def oneIf (v:Value):Nat:=match v with
 |.bool true=>1
 |_=>0
theorem iL_zero (n:Nat):iL (List.replicate n 0)=List.replicate n 0:=by unfold iL;rw [List.map_replicate];rfl
theorem chains_any (n:Nat) (bs:List (Int × Int)) (A:Option Addr) (c:Nat) (w:World) (hc:Cs w A (bs.flatMap PC)) (hn:bs.length<=c/\c<=maxLen) (h3:n<=3) :
  Calls Tryz.prog 78 #[.int .i64 n,.slice A bs.length c] w (ChainE n bs w):=by
 have HC:=hid hc;unfold maxLen at hn;have hmk:=Mi n (by omega);have hmx:max (n:Int) 0=n:=by omega
 obtain ⟨n4,p4⟩:=Na w (.cells (madeCells #[.int .i64 0] n) 3);have HN4:=hid n4;have HP4:=hid (show (w.alloc (.cells (madeCells #[.int .i64 0] n) 3)).heap[w.heap.size]? = some (.cells (ints (iL (List.replicate n 0))).toArray 3) by rw [p4,mI,iL_zero]);have HM0:=hid (Mat.zero (n:=n) (bs:=bs));clear hc n4 p4;go_enter Tryz.func78,Tryz.ntmps78;(try simp only [Bm])
 go_upto_region 2 with fail;generalize w.alloc (.cells (madeCells #[.int .i64 0] n) 3)=wa at *;obtain ⟨g4,hg4⟩:∃ g4,g4=w.heap.size:=⟨_,rfl⟩
 have HG4:=hid (show w.heap.size<=g4 by omega);rw [<- hg4] at HP4;rw [<- hg4];clear hg4 hmk hmx;go_wp2_with fail;go_loopw [6] (fun mo wr=>∃ (b:Bool) (L:List Nat),mo=.bool b/\wr.heap[g4]? = some (.cells (ints (iL L)).toArray 3)/\Mat n bs L/\(b=false->Clo n bs L bs.length)/\Below w.heap.size w wr) (fun mo wr=>2*(22 - sumAt wr g4)+oneIf mo)
 case atStart=>exact ⟨true,_,rfl,HP4.out,HM0.out,fun h=>absurd h (by decide),HN4.out⟩
 case round =>
  clear HP4 HN4 HM0;obtain ⟨b,L,rfl,hr4,hmat,hclo,hbel⟩:=hrel;have HR4:=hid hr4;have HB:=hid hbel;have HM:=hid hmat;have HCL:=hid hclo;have HSU:=hid (sumAt_of hr4)
  have HSL:=hid (show L.sum<=21 by
   have h1:=sum_le L hmat.lt;rw [hmat.len] at h1;omega)
  clear hr4 hbel hmat hclo
  cases b with
  |false =>
   have HF:=hid (HCL.out rfl);go_wp2_with fail;go_ret;refine ⟨_,_,L,rfl,?_,HM.out,HF.out,HB.out⟩;have hl:(iL L).length=n:=by rw [iL_len];exact HM.out.len
   have:=oM HR4.out HG4.out hl (by unfold maxLen;omega);show OR _ _ _ _ _ _ _ _
   rw [hl];exact this
  |true =>
   clear HCL;generalize wr=wo at *;go_wp2_with fail;go_loopw [6,18] (fun mo j wr=>∃ (k:Nat) (b:Bool) (L2:List Nat),k<=bs.length/\j=.int .i64 k/\mo=.bool b/\wr.heap[g4]? = some (.cells (ints (iL L2)).toArray 3)/\Mat n bs L2/\(b=false->L2=L/\Clo n bs L2 k)/\(b=true->L.sum<L2.sum)/\Below w.heap.size w wr) (fun _ j _=>bs.length - (intOf j).toNat)
   case atStart=>exact ⟨0,false,L,Nat.zero_le _,rfl,rfl,HR4.out,HM.out,fun _=>⟨rfl,fun i _ h=>absurd h (Nat.not_lt_zero _)⟩,fun h=>absurd h (by decide),HB.out⟩
   case round =>
    clear HR4 HB HM;obtain ⟨k,b,L2,hk,rfl,rfl,hr4,hmat,hno,hyes,hbel⟩:=hrel;have HR4:=hid hr4;have HB:=hid hbel;have HM:=hid hmat;have HNO:=hid hno;have HYES:=hid hyes;clear hr4 hbel hmat hno hyes;by_cases hlt:k<bs.length
    ·have hlt1:(k:Int)<(bs.length:Int):=by omega
     obtain ⟨g1,o1,hA1,hg1,hx1⟩:=eP pC (by decide) HC.out (by omega);have x0:=(HB.out.cell (p:=⟨g1,o1+k*2+0,none⟩) hg1).trans (hx1 k hlt 0 _ rfl);have x1:=(HB.out.cell (p:=⟨g1,o1+k*2+1,none⟩) hg1).trans (hx1 k hlt 1 _ rfl);rw [Nat.add_zero] at x0;have HMEM:=hid (List.getElem_mem hlt);have HNX:=hid (fun (h:Clo n bs L2 k) h2=>Clo.next h hlt h2);rw [hA1];clear hx1 hA1
     obtain ⟨u,hu⟩:∃ u,u=bs[k]:=⟨_,rfl⟩
     rw [<- hu] at x0 x1 HMEM HNX;clear hu;obtain ⟨u0,u1⟩:=u;simp only at x0 x1;obtain ⟨n5,p5⟩:=Na wr (.cells #[.int .i64 u0,.int .i64 u1] 139);go_upto_region 8 with fail;generalize hw5:wr.alloc (.cells #[.int .i64 u0,.int .i64 u1] 139)=w5 at *;clear hw5;have HB5:=hid (bL HB.out n5);have HR5:=hid (rK HR4.out n5);obtain ⟨g5,hg5⟩:∃ g5,g5=wr.heap.size:=⟨_,rfl⟩
     rw [<- hg5] at p5;rw [<- hg5];have y0:=CX p5 0 (.int .i64 u0) rfl;have y1:=CX p5 1 (.int .i64 u1) rfl;clear n5 p5 hg5 x0 x1 HB HR4;go_quiet (fail)
     have HB6:=hid (bL HB5.out (below_drewN (Below.refl w5.heap.size w5) nq));have HR6:=hid (rK HR5.out (below_drewN (Below.refl w5.heap.size w5) nq));generalize w5.drewN nq=w6 at *;clear y0 y1 HB5 HR5;by_cases c1:u0<0
     ·have HX:=hid (show Clo n bs L2 k->Clo n bs L2 (k+1) from fun h=>HNX.out h fun a b e ha hb=>by injection e with e1 e2;omega)
      go_wp2_with fail;go_roundw
      case rel=>exact ⟨k+1,b,L2,by omega,by go_num,rfl,HR6.out,HM.out,fun hb=>⟨(HNO.out hb).1,HX.out (HNO.out hb).2⟩,HYES.out,HB6.out⟩
      case measure=>simp [intOf];omega
     by_cases c2:u1<0
     ·have HX:=hid (show Clo n bs L2 k->Clo n bs L2 (k+1) from fun h=>HNX.out h fun a b e ha hb=>by injection e with e1 e2;omega)
      go_wp2_with fail;go_roundw
      case rel=>exact ⟨k+1,b,L2,by omega,by go_num,rfl,HR6.out,HM.out,fun hb=>⟨(HNO.out hb).1,HX.out (HNO.out hb).2⟩,HYES.out,HB6.out⟩
      case measure=>simp [intOf];omega
     by_cases c3:(n:Int)<=u0
     ·have HX:=hid (show Clo n bs L2 k->Clo n bs L2 (k+1) from fun h=>HNX.out h fun a b e ha hb=>by injection e with e1 e2;omega)
      go_wp2_with fail;go_roundw
      case rel=>exact ⟨k+1,b,L2,by omega,by go_num,rfl,HR6.out,HM.out,fun hb=>⟨(HNO.out hb).1,HX.out (HNO.out hb).2⟩,HYES.out,HB6.out⟩
      case measure=>simp [intOf];omega
     by_cases c4:(n:Int)<=u1
     ·have HX:=hid (show Clo n bs L2 k->Clo n bs L2 (k+1) from fun h=>HNX.out h fun a b e ha hb=>by injection e with e1 e2;omega)
      go_wp2_with fail;go_roundw
      case rel=>exact ⟨k+1,b,L2,by omega,by go_num,rfl,HR6.out,HM.out,fun hb=>⟨(HNO.out hb).1,HX.out (HNO.out hb).2⟩,HYES.out,HB6.out⟩
      case measure=>simp [intOf];omega
     obtain ⟨a,ha⟩:∃ a:Nat,u0=(a:Int):=⟨u0.toNat,by omega⟩
     obtain ⟨d,hd⟩:∃ d:Nat,u1=(d:Int):=⟨u1.toNat,by omega⟩
     subst ha hd;have ha:a<n:=by omega
     have hd:d<n:=by omega
     have hlen:=HM.out.len;have HMS:=hid (HM.out.set HMEM.out ha hd h3);have HOR:=hid (or3_bit _ (HM.out.lt d) _ (HM.out.lt a) a (by omega));have hge:=or3_ge (L2.getD d 0) (L2.getD a 0) a;have xd:=CX HR6.out d _ (iL_get (by omega));have xa:=CX HR6.out a _ (iL_get (by omega));have HSS:=hid (fun v (h:L2.getD d 0<v)=>sum_set L2 d v (by omega) h)
     have HIS:=hid (fun v=>iL_set L2 d v);obtain ⟨v,hv⟩:∃ v,v=L2.getD d 0 ||| L2.getD a 0 ||| 1 <<< a:=⟨_,rfl⟩
     have HXX:=hid (show v=L2.getD d 0->Clo n bs L2 k->Clo n bs L2 (k+1) from fun hvv h=>HNX.out h fun a2 d2 e _ _=>by
      injection e with e1 e2
      have:a2=a:=by omega
      subst this;have:d2=d:=by omega
      subst this;rw [<- hv,hvv])
     rw [<- hv] at HMS HOR hge;generalize L2.getD d 0=s at *;generalize L2.getD a 0=t at *;clear hv HNX;go_wp2_with fail;go_quiet (fail)
     rw [HOR.out];have HB7:=hid (bL HB6.out (below_drewN (Below.refl w6.heap.size w6) nq));have HR7:=hid (rK HR6.out (below_drewN (Below.refl w6.heap.size w6) nq));have xd7:=((below_drewN (Below.refl w6.heap.size w6) nq).cell (p:=⟨g4,d,none⟩) (lh HR6.out)).trans xd;generalize w6.drewN nq=w7 at *;clear xd xa HB6 HR6 HOR;by_cases hvs:v=s
     ·subst hvs
      have HX:=hid (HXX.out rfl);go_wp2_with fail;go_roundw
      case rel=>exact ⟨k+1,b,L2,by omega,by go_num,rfl,HR7.out,HM.out,fun hb=>⟨(HNO.out hb).1,HX.out (HNO.out hb).2⟩,HYES.out,HB7.out⟩
      case measure=>simp [intOf];omega
     ·have hvb:=ib (show ¬ (v:Int)=(s:Int) by omega)
      have HLT:=hid (HSS.out v (by omega));have HSE:=hid (show (w7.setCell ⟨g4,d,none⟩ (.int .i64 (v:Int))).heap[g4]? = some (.cells (ints (iL (L2.set d v))).toArray 3) by rw [Hp HR7.out,HIS.out]);have HBS:=hid (HB7.out.setCell (p:=⟨g4,d,none⟩) HG4.out (.int .i64 (v:Int)));have f0:=fz HR7.out d
      have HLE:=hid (show L.sum<=L2.sum by
       cases b with
       |false=>rw [(HNO.out rfl).1];exact Nat.le_refl _
       |true=>exact Nat.le_of_lt (HYES.out rfl))
      clear hvs;go_wp2_with fail;go_roundw
      case rel=>exact ⟨k+1,true,L2.set d v,by omega,by go_num,rfl,HSE.out,HMS.out,fun h=>absurd h (by decide),fun _=>Nat.lt_of_le_of_lt HLE.out HLT.out,HBS.out⟩
      case measure=>simp [intOf];omega
    ·have hlt1:¬ (k:Int)<(bs.length:Int):=by omega
     have hke:k=bs.length:=by omega
     subst hke
     have HME:=hid (show 2*(22 - sumAt wr g4)+oneIf (.bool b)<2*(22 - sumAt wo g4)+oneIf (.bool true) by
      have h1:=HSU.out;have h2:=HSL.out;have h4:=sumAt_of HR4.out;rw [h1,h4]
      cases b with
      |false=>rw [(HNO.out rfl).1];exact Nat.lt_succ_self _
      |true =>
       have h5:=HYES.out rfl;show 2*(22 - L2.sum)+1<2*(22 - L.sum)+1
       omega)
     go_wp2_with fail;go_roundw
     case rel=>exact ⟨b,L2,rfl,HR4.out,HM.out,fun hb=>(HNO.out hb).2,HB.out⟩
     case measure=>exact HME.out
theorem Ht {s o:Nat} (ho:o<=62):Aa s (o:Int)=s.testBit o:=by
 unfold Aa;rw [Nat.testBit_eq_decide_div_mod_eq,Int.toNat_natCast];apply decide_eq_decide.2
 have e:((s:Int) / 2 ^ o % 2=1)↔s / 2 ^ o % 2=1:=by
  have:(s:Int) / 2 ^ o % 2=((s / 2 ^ o % 2:Nat):Int):=by
   rw [Int.natCast_emod,Int.natCast_ediv,Int.natCast_pow];rfl
  rw [this];omega
 rw [e];constructor
 ·rintro ⟨_,_,h⟩;exact h
 ·intro h;exact ⟨by omega,by omega,h⟩
theorem or_has {s o:Nat} (h:s.testBit o=true):s ||| 1 <<< o=s:=by
 rw [Nat.one_shiftLeft];apply Nat.eq_of_testBit_eq
 intro j;rw [Nat.testBit_or,Nat.testBit_two_pow];by_cases e:o=j
 ·subst e;rw [h];rfl
 ·rw [decide_eq_false e,Bool.or_false]
theorem or_add {s o:Nat} (hs:s<2 ^ 63) (ho:o<=62) (h:s.testBit o=false):s ||| 1 <<< o=s+2 ^ o:=by
 rw [Nat.one_shiftLeft];have hp:2 ^ o<2 ^ 63:=Nat.pow_lt_pow_right (by decide) (by omega);have hp2:2 ^ o<2 ^ 64:=by omega
 have hz:BitVec.ofNat 64 s &&& BitVec.ofNat 64 (2 ^ o)=0#64:=by
  apply BitVec.eq_of_toNat_eq
  rw [BitVec.toNat_and,BitVec.toNat_ofNat,BitVec.toNat_ofNat,Nat.mod_eq_of_lt (show s<2 ^ 64 by omega),Nat.mod_eq_of_lt hp2];apply Nat.eq_of_testBit_eq
  intro j;rw [Nat.testBit_and,Nat.testBit_two_pow];by_cases e:o=j
  ·subst e;rw [h];simp
  ·rw [decide_eq_false e,Bool.and_false];simp
 have h1:=congrArg BitVec.toNat (BitVec.add_eq_or_of_and_eq_zero (BitVec.ofNat 64 s) (BitVec.ofNat 64 (2 ^ o)) hz);rw [BitVec.toNat_add,BitVec.toNat_or,BitVec.toNat_ofNat,BitVec.toNat_ofNat,Nat.mod_eq_of_lt (show s<2 ^ 64 by omega),Nat.mod_eq_of_lt hp2,Nat.mod_eq_of_lt (show s+2 ^ o<2 ^ 64 by omega)] at h1;exact h1.symm
theorem setV_lt63 {vs:List (Int × Bool)} (h:∀ v ∈ vs,v.1<=62):sV vs<2 ^ 63:=by
 unfold sV
 have key:∀ (l:List (Int × Bool)) (s:Nat),s<2 ^ 63->(∀ v ∈ l,v.1<=62)->l.foldl (fun s v=>s ||| 1 <<< v.1.toNat) s<2 ^ 63:=by
  intro l
  induction l with
  |nil=>intro s hs _;exact hs
  |cons v l ih =>
   intro s hs hl;rw [List.foldl_cons];refine ih _ ?_ fun u hu=>hl u (by simp [hu]);refine Nat.or_lt_two_pow (n:=63) hs ?_;have h3:v.1.toNat<63:=by have:=hl v (by simp);omega
   rw [Nat.one_shiftLeft];exact Nat.pow_lt_pow_right (by decide) h3
 exact key vs 0 (by decide) h
theorem mod_two (E:Int) (h0:0<=E):E.tmod 2=E % 2:=Int.tmod_eq_emod_of_nonneg h0
theorem rehas_any (s:Nat) (i:Int) (w:World) (hs:s<2 ^ 63) (hi:0<=i/\i<=62) :
  Calls Tryz.prog 30 #[.int .i64 s,.int .i64 i] w fun e w'=>e=.returned (.bool (Aa s i))/\w'=w:=by
 have hd0:0<=(s:Int) / 2 ^ i.toNat:=Int.ediv_nonneg (by omega) (Int.pow_nonneg (by omega))
 have HV:=hid (show Aa s i=(((s:Int) / 2 ^ i.toNat).tmod 2 == 1) by
  rw [mod_two _ hd0];unfold Aa;by_cases e:(s:Int) / 2 ^ i.toNat % 2=1
  ·rw [e,decide_eq_true ⟨hi.1,hi.2,rfl⟩];rfl
  ·rw [decide_eq_false (fun h=>e h.2.2)];simp [e])
 clear hd0;go_enter Tryz.func30,Tryz.ntmps30;go_wp2_with fail;go_ret;exact ⟨rb HV.out.symm,rfl⟩
def SetE (vs:List (Int × Bool)) (w:World) (e:Ending) (w':World):Prop:=∃ k z:Int,e=.returned (.tuple #[.int .i64 k,.int .i64 z])/\(z=0->(∀ v ∈ vs,0<=v.1/\v.1<=62)/\k=sV vs)/\Below w.heap.size w w'
theorem SetE.no {vs:List (Int × Bool)} {w w':World} (hb:Below w.heap.size w w'):SetE vs w (.returned (.tuple #[.int .i64 0,.int .i64 2])) w':=⟨0,2,rfl,fun h=>absurd h (by decide),hb⟩
theorem SetE.yes {vs:List (Int × Bool)} {w w':World} (h:∀ k (hk:k<vs.length),0<=vs[k].1/\vs[k].1<=62) (hb:Below w.heap.size w w'):SetE vs w (.returned (.tuple #[.int .i64 (sV vs),.int .i64 0])) w':=⟨sV vs,0,rfl,fun _=>⟨fun v hv=>by
 obtain ⟨k,hk,rfl⟩:=List.getElem_of_mem hv;exact h k hk,rfl⟩,hb⟩
theorem shl_of {s o s2:Nat} (h:s2=s+2 ^ o) (h2:s2<2 ^ 63):wrap64 ((s:Int)+wrap64 (2 ^ o))=(s2:Int):=by
 have e1:((2:Int) ^ o)=((2 ^ o:Nat):Int):=by rw [Int.natCast_pow];rfl
 have e2:wrap64 ((2:Int) ^ o)=((2 ^ o:Nat):Int):=by
  have hp:0<2 ^ o:=Nat.two_pow_pos o;rw [e1];generalize 2 ^ o=q at *;unfold wrap64;omega
 rw [e2];have e3:(s:Int)+((2 ^ o:Nat):Int)=(s2:Int):=by omega
 rw [e3];unfold wrap64;omega
theorem reorders_any (r:RM) (w:World) (hr:Rt w r) (hvl8:r.r.vis.length<=8):Calls Tryz.prog 11 #[ro r] w (SetE r.r.vis w):=by
 obtain ⟨n4,p4⟩:=Na w (.cells (rR r) 34);have HN4:=hid n4;have HC:=hid (hr.vis.below n4);have HP4:=hid p4;have hvl:=hr.vl;unfold maxLen at hvl;clear hr n4 p4;go_enter Tryz.func11,Tryz.ntmps11;(try simp only [Bm]);go_upto_region 1 with fail;rw [rq];generalize w.alloc (.cells (rR r) 34)=wa at *;obtain ⟨h1,hh1⟩:∃ h1,h1=w.heap.size:=⟨_,rfl⟩
 rw [<- hh1] at HP4;rw [<- hh1];clear hh1;obtain ⟨vs,hvs⟩:∃ vs,vs=r.r.vis:=⟨_,rfl⟩
 unfold rR at HP4;rw [<- hvs] at HC hvl HP4 hvl8;have HVS:=hid hvs;clear hvs;go_wp2_with fail;go_loopw [4,5] (fun s j wr=>∃ k:Nat,k<=vs.length/\j=.int .i64 k/\s=.int .i64 (sV (vs.take k))/\(∀ i (h:i<vs.length),i<k->0<=vs[i].1/\vs[i].1<=62)/\Below wa.heap.size wa wr) (fun _ j _=>vs.length - (intOf j).toNat)
 case atStart=>exact ⟨0,Nat.zero_le _,rfl,rfl,fun i _ h=>absurd h (Nat.not_lt_zero _),Below.refl _ _⟩
 case round =>
  obtain ⟨k,hk,rfl,rfl,hall,hbel⟩:=hrel;have HB:=hid hbel;have HALL:=hid hall;clear hbel hall;have y3:=CX (rK HP4.out HB.out) 3 (.slice r.C vs.length r.cc) rfl;by_cases hlt:k<vs.length
  ·have hlt1:(k:Int)<(vs.length:Int):=by omega
   obtain ⟨g1,o1,hA1,hg1,hx1⟩:=eP vC (by decide) HC.out (by omega);have x0:=(HB.out.cell (p:=⟨g1,o1+k*2+0,none⟩) hg1).trans (hx1 k hlt 0 _ rfl);rw [Nat.add_zero] at x0;have HT:=hid (Cm hlt)
   have HNX:=hid (show (0<=vs[k].1/\vs[k].1<=62)->∀ i (h:i<vs.length),i<k+1->0<=vs[i].1/\vs[i].1<=62 from fun h i hi hik=>by
    by_cases e:i=k
    ·subst e;exact h
    ·exact HALL.out i hi (by omega))
   have HS:=hid (setV_lt63 (vs:=vs.take k) fun v hv=>by
    obtain ⟨j,hj,rfl⟩:=List.mem_take_iff_getElem.1 hv;exact (HALL.out j (by omega) (by omega)).2)
   have HS2:=hid (show (0<=vs[k].1/\vs[k].1<=62)->sV (vs.take (k+1))<2 ^ 63 from fun h=>setV_lt63 (vs:=vs.take (k+1)) fun v hv=>by
    obtain ⟨j,hj,rfl⟩:=List.mem_take_iff_getElem.1 hv;exact (HNX.out h j (by omega) (by omega)).2)
   rw [hA1] at y3;clear hx1 hA1;obtain ⟨u,hu⟩:∃ u,u=vs[k]:=⟨_,rfl⟩
   rw [<- hu] at x0 HT HNX HS2;clear hu;obtain ⟨u0,u1⟩:=u;simp only at x0 HT HNX HS2;by_cases t1:u0<0
   ·go_wp2_with fail
    go_ret2;rw [<- HVS.out];exact SetE.no (HN4.out.trans (HB.out.mono HN4.out.size))
   ·by_cases t2:62<u0
    ·go_wp2_with fail
     go_ret2;rw [<- HVS.out];exact SetE.no (HN4.out.trans (HB.out.mono HN4.out.size))
    ·obtain ⟨o,ho⟩:∃ o:Nat,u0=(o:Int):=⟨u0.toNat,by omega⟩
     subst ho;have ho2:o<=62:=by omega
     have HN:=hid (HNX.out ⟨by omega,by omega⟩);have HS3:=hid (HS2.out ⟨by omega,by omega⟩);rw [Int.toNat_natCast] at HT;obtain ⟨s,hs⟩:∃ s,s=sV (vs.take k):=⟨_,rfl⟩
     rw [<- hs] at HT HS;rw [<- hs];obtain ⟨s2,hs2⟩:∃ s2,s2=sV (vs.take (k+1)):=⟨_,rfl⟩
     have HQ2:=hid hs2;rw [<- hs2] at HT HS3;clear hs hs2 HNX HS2;go_wp2_with fail;refine (rehas_any s (o:Int) wr HS.out ⟨by omega,by omega⟩).mono ?_;rintro e w1 ⟨rfl,hw⟩;obtain rfl:=hw.symm;rw [Ht ho2]
     cases hh:s.testBit o with
     |true =>
      have HE:=hid (show s2=s by rw [HT.out,or_has hh]);clear hh;go_wp2_with fail;go_roundw
      case rel=>exact ⟨k+1,by omega,by go_num,by rw [<- HQ2.out,HE.out],HN.out,HB.out⟩
      case measure=>simp [intOf];omega
     |false =>
      have HE:=hid (shl_of (s:=s) (o:=o) (s2:=s2) (by rw [HT.out,or_add HS.out ho2 hh]) HS3.out);clear hh;go_wp2_with fail;go_roundw
      case rel=>exact ⟨k+1,by omega,by go_num,by rw [<- HQ2.out,<- HE.out],HN.out,HB.out⟩
      case measure=>simp [intOf];omega
  ·have hlt1:¬ (k:Int)<(vs.length:Int):=by omega
   have HE:=hid (show sV (vs.take k)=sV vs by rw [List.take_of_length_le (by omega)]);go_wp2_with fail;go_ret2;rw [<- HVS.out,HE.out];exact SetE.yes (fun i hi=>HALL.out i hi (by omega)) (HN4.out.trans (HB.out.mono HN4.out.size))
structure AP (x:IV) (s:Nat):Prop where
 off:∀ i ∈ MS s,oO x i=false
 apart:∀ p ∈ x.apart,(Aa s p.1 && Aa s p.2)=false
 before:∀ p ∈ x.before,(Aa s p.2 && !Aa s p.1)=false
 loop:∀ k:Nat,(k:Int) ∈ MS s->¬ Path x.ords.length x.before k k
def AE (x:IV) (s:Nat) (w:World) (e:Ending) (w':World):Prop:=∃ k:Int,e=.returned (.int .i64 k)/\(k=0↔AP x s)/\Below w.heap.size w w'
theorem AE.no {x:IV} {s:Nat} {w w':World} {k:Int} (hk:k≠0) (h:¬ AP x s) (hb:Below w.heap.size w w'):AE x s w (.returned (.int .i64 k)) w':=⟨k,rfl,⟨fun h2=>absurd h2 hk,fun h2=>absurd h2 h⟩,hb⟩
theorem AE.yes {x:IV} {s:Nat} {w w':World} (h:AP x s) (hb:Below w.heap.size w w'):AE x s w (.returned (.int .i64 0)) w':=⟨0,rfl,⟨fun _=>h,fun _=>rfl⟩,hb⟩
theorem Mt {s n:Nat} (hs:s<2 ^ n) {i:Int} (h:i ∈ MS s):0<=i/\i<(n:Int):=by
 rw [mS] at h;unfold Aa at h;obtain ⟨h1,h2,h3⟩:=of_decide_eq_true h;refine ⟨h1,?_⟩;obtain ⟨k,rfl⟩:∃ k:Nat,i=(k:Int):=⟨i.toNat,by omega⟩
 rw [Int.toNat_natCast] at h3
 have h4:k<n:=by
  rcases Nat.lt_or_ge k n with h5 | h5
  ·exact h5
  ·have h6:s<2 ^ k:=Nat.lt_of_lt_of_le hs (Nat.pow_le_pow_right (by decide) h5)
   have h7:(s:Int) / 2 ^ k=0:=by
    have:(s:Int) / 2 ^ k=((s / 2 ^ k:Nat):Int):=by rw [Int.natCast_ediv,Int.natCast_pow];rfl
    rw [this,Nat.div_eq_of_lt h6];rfl
   rw [h7] at h3;exact absurd h3 (by decide)
 omega
theorem OO {m:IM} {k:Nat} (h:k<m.ords.length):oO m.v (k:Int)=m.ords[k].o.off:=by
 unfold oO;rw [show OA m.v (k:Int)=some m.ords[k].o from On (m:=m) (i:=(k:Int)) (by omega) (by simpa using h)]
theorem aM {l:List Int} {P:Int->Prop} (h:∀ i (hi:i<l.length),P l[i]):∀ i ∈ l,P i:=fun i hi=>by
 obtain ⟨k,hk,rfl⟩:=List.getElem_of_mem hi;exact h k hk
theorem ap {l:List (Int × Int)} {P:Int × Int->Prop} (h:∀ i (hi:i<l.length),P l[i]):∀ p ∈ l,P p:=fun i hi=>by
 obtain ⟨k,hk,rfl⟩:=List.getElem_of_mem hi;exact h k hk
theorem aa (m:IM) (s:Nat) (w:World) (hm:IA w m) (hml:m.ords.length<=3) (hs:s<2 ^ m.ords.length) :
  Calls Tryz.prog 31 #[iA m,.int .i64 s] w (AE m.v s w):=by
 obtain ⟨n4,p4⟩:=Na w (.cells (iQ m) 30);have HN4:=hid n4;have HK:=hid p4;have HO:=hid hm.ords;have HX:=hid hm.apart;have HBF:=hid hm.before;have hol:=hm.ol;have hxl:=hm.xl;have hbl:=hm.bl;have hs8:s<8:=Nat.lt_of_lt_of_le hs (Nat.pow_le_pow_right (n:=2) (by decide) hml);have hs20:s<1048576:=by omega
 have HMEM:=hid (fun w'=>ma s w' hs20);have HHAS:=hid (fun i w'=>mA s i w' hs20);have HCH:=hid (fun w' (hb:Below w.heap.size w w')=>chains_any m.ords.length m.before m.bA m.bc w' (hm.before.below hb) hm.bl hml);have HLT:=hid (fun i (hi:i ∈ MS s)=>Mt hs hi);have HXV:=hid (show m.v.apart=m.apart from rfl);have HBV:=hid (show m.v.before=m.before from rfl)
 have HNV:=hid (oL m);unfold maxLen at hol hxl hbl;clear hm n4 p4 hs;go_enter Tryz.func31,Tryz.ntmps31;(try simp only [Bm]);go_upto_region 1 with fail;rw [iq];generalize w.alloc (.cells (iQ m) 30)=wa at *;obtain ⟨h1,hh1⟩:∃ h1,h1=w.heap.size:=⟨_,rfl⟩
 rw [<- hh1] at HK;rw [<- hh1];clear hh1;go_wp2_with fail;refine (HMEM.out wa).mono ?_;rintro e w1 ⟨VA,vc,rfl,hown,hb1⟩;have HOW:=hid (OR.cells hown);have HCP:=hid (OR.cap hown);have HB1:=hid (bL HN4.out hb1);have HK1:=hid (rK HK.out hb1);have hlen:=mK s 63;obtain ⟨l,hl⟩:∃ l,l=MS s:=⟨_,rfl⟩
 have hlen:l.length<=63:=by rw [hl];exact hlen
 rw [<- hl] at HOW HCP HLT;rw [<- hl];have HL:=hid hl;clear hown hb1 HK HN4 hl HMEM;go_wp2_with fail;go_loopw [23] (fun j wr=>∃ k:Nat,k<=l.length/\j=.int .i64 k/\(∀ i (h:i<l.length),i<k->0<=l[i])/\wr.heap[h1]? = some (.cells (iQ m) 30)/\Below w.heap.size w wr/\Below w1.heap.size w1 wr) (fun j _=>l.length - (intOf j).toNat)
 case atStart=>exact ⟨0,Nat.zero_le _,rfl,fun i _ h=>absurd h (Nat.not_lt_zero _),HK1.out,HB1.out,Below.refl _ _⟩
 case round =>
  clear HK1 HB1;obtain ⟨k,hk,rfl,hno,hr1,hbel,hbl1⟩:=hrel;have HB:=hid hbel;have HBL:=hid hbl1;have HNO:=hid hno;have HR1:=hid hr1;clear hbel hno hr1 hbl1;by_cases hlt:k<l.length
  ·have hlt1:(k:Int)<(l.length:Int):=by omega
   obtain ⟨g1,o1,hA1,hg1,hx1⟩:=HOW.out (by rw [il];omega);have x0:=(HBL.out.cell (p:=⟨g1,o1+k,none⟩) hg1).trans (hx1 k _ (iK l k hlt));have hu:=HLT.out _ (List.getElem_mem hlt);have HME:=hid (show l[k] ∈ MS s by rw [<- HL.out];exact List.getElem_mem hlt)
   have HNEXT:=hid (show 0<=l[k]->∀ i (h:i<l.length),i<k+1->0<=l[i] from fun h i hi hik=>by
    by_cases e:i=k
    ·subst e;exact h
    ·exact HNO.out i hi (by omega))
   rw [hA1];clear hx1 hA1;obtain ⟨u,hu2⟩:∃ u,u=l[k]:=⟨_,rfl⟩
   rw [<- hu2] at x0 hu HME HNEXT;clear hu2;obtain ⟨o,ho⟩:∃ o:Nat,u=(o:Int):=⟨u.toNat,by omega⟩
   subst ho;have hol1:o<m.ords.length:=by omega
   have q3:=CX HR1.out 3 (.slice m.oA m.ords.length m.oc) rfl;have HN:=hid (HNEXT.out (by omega));clear HNEXT;go_wp2_with fail;go_roundw
   case rel=>exact ⟨k+1,by omega,by go_num,HN.out,HR1.out,HB.out,HBL.out⟩
   case measure=>simp [intOf];omega
  ·have hlt1:¬ (k:Int)<(l.length:Int):=by omega
   have HALL:=hid (aM (l:=l) (P:=fun u=>0<=u) fun i hi=>HNO.out i hi (by omega));clear HNO;clear HALL;go_wp2_with fail;have HB2:=HB;have HBL2:=HBL;have HR12:=HR1;clear HB HR1 HBL
   go_loopw [35] (fun j wr=>∃ k:Nat,k<=l.length/\j=.int .i64 k/\(∀ i (h:i<l.length),i<k->oO m.v l[i]=false)/\wr.heap[h1]? = some (.cells (iQ m) 30)/\Below w.heap.size w wr/\Below w1.heap.size w1 wr) (fun j _=>l.length - (intOf j).toNat)
   case atStart=>exact ⟨0,Nat.zero_le _,rfl,fun i _ h=>absurd h (Nat.not_lt_zero _),HR12.out,HB2.out,HBL2.out⟩
   case round =>
    clear HR12 HB2 HBL2;obtain ⟨k,hk,rfl,hno,hr1,hbel,hbl1⟩:=hrel;have HB:=hid hbel;have HBL:=hid hbl1;have HNO:=hid hno;have HR1:=hid hr1;clear hbel hno hr1 hbl1;by_cases hlt:k<l.length
    ·have hlt1:(k:Int)<(l.length:Int):=by omega
     obtain ⟨g1,o1,hA1,hg1,hx1⟩:=HOW.out (by rw [il];omega);have x0:=(HBL.out.cell (p:=⟨g1,o1+k,none⟩) hg1).trans (hx1 k _ (iK l k hlt));have hu:=HLT.out _ (List.getElem_mem hlt);have HME:=hid (show l[k] ∈ MS s by rw [<- HL.out];exact List.getElem_mem hlt)
     have HNEXT:=hid (show oO m.v l[k]=false->∀ i (h:i<l.length),i<k+1->oO m.v l[i]=false from fun h i hi hik=>by
      by_cases e:i=k
      ·subst e;exact h
      ·exact HNO.out i hi (by omega))
     rw [hA1];clear hx1 hA1;obtain ⟨u,hu2⟩:∃ u,u=l[k]:=⟨_,rfl⟩
     rw [<- hu2] at x0 hu HME HNEXT;clear hu2;obtain ⟨o,ho⟩:∃ o:Nat,u=(o:Int):=⟨u.toNat,by omega⟩
     subst ho;have hol1:o<m.ords.length:=by omega
     have q3:=CX HR1.out 3 (.slice m.oA m.ords.length m.oc) rfl;obtain ⟨g2,o2,hA2,hg2,hx2⟩:=eP OM.cells_len (by decide) HO.out (by omega);have x2:=(HB.out.cell (p:=⟨g2,o2+o*16+15,none⟩) hg2).trans (hx2 o hol1 15 _ rfl);rw [hA2] at q3;have HOF:=hid (OO hol1);clear hx2 hA2;generalize m.ords[o].o.off=b at *
     cases b with
     |true =>
      have HNA:=hid (show ¬ AP m.v s from fun h=>by
       have h3:=h.off _ HME.out;rw [HOF.out] at h3;cases h3)
      clear HNEXT;go_wp2_with fail;go_ret;exact AE.no (by decide) HNA.out HB.out
     |false =>
      have HN:=hid (HNEXT.out HOF.out);clear HNEXT;go_wp2_with fail;go_roundw
      case rel=>exact ⟨k+1,by omega,by go_num,HN.out,HR1.out,HB.out,HBL.out⟩
      case measure=>simp [intOf];omega
    ·have hlt1:¬ (k:Int)<(l.length:Int):=by omega
     have HALL:=hid (aM (l:=l) (P:=fun u=>oO m.v u=false) fun i hi=>HNO.out i hi (by omega));clear HNO;have HALLo:=HALL;clear HALL;have q4:=CX HR1.out 4 (.slice m.xA m.apart.length m.xc) rfl;go_wp2_with fail;clear q4;have HB2:=HB;have HBL2:=HBL;have HR12:=HR1;clear HB HBL HR1
     go_loopw [49] (fun j wr=>∃ k:Nat,k<=m.apart.length/\j=.int .i64 k/\(∀ i (h:i<m.apart.length),i<k->(Aa s m.apart[i].1 && Aa s m.apart[i].2)=false)/\wr.heap[h1]? = some (.cells (iQ m) 30)/\Below w.heap.size w wr/\Below w1.heap.size w1 wr) (fun j _=>m.apart.length - (intOf j).toNat)
     case atStart=>exact ⟨0,Nat.zero_le _,rfl,fun i _ h=>absurd h (Nat.not_lt_zero _),HR12.out,HB2.out,HBL2.out⟩
     case round =>
      clear HR12 HB2 HBL2;obtain ⟨k,hk,rfl,hno,hr1,hbel,hbl1⟩:=hrel;have HB:=hid hbel;have HBL:=hid hbl1;have HNO:=hid hno;have HR1:=hid hr1;clear hbel hno hr1 hbl1;by_cases hlt:k<m.apart.length
      ·have hlt1:(k:Int)<(m.apart.length:Int):=by omega
       obtain ⟨g1,o1,hA1,hg1,hx1⟩:=eP pC (by decide) HX.out (by omega);have x0:=(HB.out.cell (p:=⟨g1,o1+k*2+0,none⟩) hg1).trans (hx1 k hlt 0 _ rfl);have x1:=(HB.out.cell (p:=⟨g1,o1+k*2+1,none⟩) hg1).trans (hx1 k hlt 1 _ rfl);rw [Nat.add_zero] at x0;have HME:=hid (List.getElem_mem hlt)
       have HNEXT:=hid (show (Aa s m.apart[k].1 && Aa s m.apart[k].2)=false->∀ i (h:i<m.apart.length),i<k+1->(Aa s m.apart[i].1 && Aa s m.apart[i].2)=false from fun h i hi hik=>by
        by_cases e:i=k
        ·subst e;exact h
        ·exact HNO.out i hi (by omega))
       rw [hA1];clear hx1 hA1;obtain ⟨u,hu2⟩:∃ u,u=m.apart[k]:=⟨_,rfl⟩
       rw [<- hu2] at x0 x1 HME HNEXT;clear hu2;obtain ⟨u0,u1⟩:=u;simp only at x0 x1 HNEXT;obtain ⟨n5,p5⟩:=Na wr (.cells #[.int .i64 u0,.int .i64 u1] 139);go_upto_region 19 with fail;generalize hw5:wr.alloc (.cells #[.int .i64 u0,.int .i64 u1] 139)=w5 at *;clear hw5;have HB5:=hid (bL HB.out n5);have HBL5:=hid (bL HBL.out n5);have HR15:=hid (rK HR1.out n5)
       obtain ⟨g5,hg5⟩:∃ g5,g5=wr.heap.size:=⟨_,rfl⟩
       rw [<- hg5] at p5;rw [<- hg5];have y0:=CX p5 0 (.int .i64 u0) rfl;have y1:=CX p5 1 (.int .i64 u1) rfl;clear n5 p5 hg5 x0 x1 HB HBL HR1;go_wp2_with fail;refine (HHAS.out u0 w5).mono ?_;rintro e w6 ⟨rfl,hw⟩;obtain rfl:=hw.symm
       cases hh0:Aa s u0 with
       |false =>
        have HN:=hid (HNEXT.out (by rw [hh0];rfl));clear hh0 HNEXT;go_wp2_with fail;go_roundw
        case rel=>exact ⟨k+1,by omega,by go_num,HN.out,HR15.out,HB5.out,HBL5.out⟩
        case measure=>simp [intOf];omega
       |true =>
        have HNN:=hid (fun (h:Aa s u1=false)=>HNEXT.out (by rw [h,hh0];rfl))
        have HBAD:=hid (show Aa s u1=true->¬ AP m.v s from fun h h2=>by
         have h3:=h2.apart _ (by rw [HXV.out];exact HME.out);rw [h,hh0] at h3;cases h3)
        clear hh0 HNEXT;go_wp2_with fail;refine (HHAS.out u1 w5).mono ?_;rintro e w6 ⟨rfl,hw⟩;obtain rfl:=hw.symm
        cases hh1:Aa s u1 with
        |false =>
         have HN:=hid (HNN.out hh1);clear hh1 HNN HBAD;go_wp2_with fail;go_roundw
         case rel=>exact ⟨k+1,by omega,by go_num,HN.out,HR15.out,HB5.out,HBL5.out⟩
         case measure=>simp [intOf];omega
        |true =>
         have HNA:=hid (HBAD.out hh1);clear hh1 HNN HBAD;go_wp2_with fail;go_ret;exact AE.no (by decide) HNA.out HB5.out
      ·have hlt1:¬ (k:Int)<(m.apart.length:Int):=by omega
       have HALLx:=hid (ap (l:=m.apart) (P:=fun p=>(Aa s p.1 && Aa s p.2)=false) fun i hi=>HNO.out i hi (by omega));clear HNO;have q5:=CX HR1.out 5 (.slice m.bA m.before.length m.bc) rfl;go_wp2_with fail;clear q5;have HB3:=HB;have HBL3:=HBL;have HR13:=HR1;clear HB HBL HR1
       go_loopw [67] (fun j wr=>∃ k:Nat,k<=m.before.length/\j=.int .i64 k/\(∀ i (h:i<m.before.length),i<k->(Aa s m.before[i].2 && !Aa s m.before[i].1)=false)/\wr.heap[h1]? = some (.cells (iQ m) 30)/\Below w.heap.size w wr/\Below w1.heap.size w1 wr) (fun j _=>m.before.length - (intOf j).toNat)
       case atStart=>exact ⟨0,Nat.zero_le _,rfl,fun i _ h=>absurd h (Nat.not_lt_zero _),HR13.out,HB3.out,HBL3.out⟩
       case round =>
        clear HR13 HB3 HBL3;obtain ⟨k,hk,rfl,hno,hr1,hbel,hbl1⟩:=hrel;have HB:=hid hbel;have HBL:=hid hbl1;have HNO:=hid hno;have HR1:=hid hr1;clear hbel hno hr1 hbl1;by_cases hlt:k<m.before.length
        ·have hlt1:(k:Int)<(m.before.length:Int):=by omega
         obtain ⟨g1,o1,hA1,hg1,hx1⟩:=eP pC (by decide) HBF.out (by omega);have x0:=(HB.out.cell (p:=⟨g1,o1+k*2+0,none⟩) hg1).trans (hx1 k hlt 0 _ rfl);have x1:=(HB.out.cell (p:=⟨g1,o1+k*2+1,none⟩) hg1).trans (hx1 k hlt 1 _ rfl);rw [Nat.add_zero] at x0;have HME:=hid (List.getElem_mem hlt)
         have HNEXT:=hid (show (Aa s m.before[k].2 && !Aa s m.before[k].1)=false->∀ i (h:i<m.before.length),i<k+1->(Aa s m.before[i].2 && !Aa s m.before[i].1)=false from fun h i hi hik=>by
          by_cases e:i=k
          ·subst e;exact h
          ·exact HNO.out i hi (by omega))
         rw [hA1];clear hx1 hA1;obtain ⟨u,hu2⟩:∃ u,u=m.before[k]:=⟨_,rfl⟩
         rw [<- hu2] at x0 x1 HME HNEXT;clear hu2;obtain ⟨u0,u1⟩:=u;simp only at x0 x1 HNEXT;obtain ⟨n5,p5⟩:=Na wr (.cells #[.int .i64 u0,.int .i64 u1] 139);go_upto_region 25 with fail;generalize hw5:wr.alloc (.cells #[.int .i64 u0,.int .i64 u1] 139)=w5 at *;clear hw5;have HB5:=hid (bL HB.out n5);have HBL5:=hid (bL HBL.out n5);have HR15:=hid (rK HR1.out n5)
         obtain ⟨g5,hg5⟩:∃ g5,g5=wr.heap.size:=⟨_,rfl⟩
         rw [<- hg5] at p5;rw [<- hg5];have y0:=CX p5 0 (.int .i64 u0) rfl;have y1:=CX p5 1 (.int .i64 u1) rfl;clear n5 p5 hg5 x0 x1 HB HBL HR1;go_wp2_with fail;refine (HHAS.out u1 w5).mono ?_;rintro e w6 ⟨rfl,hw⟩;obtain rfl:=hw.symm
         cases hh1:Aa s u1 with
         |false =>
          have HN:=hid (HNEXT.out (by rw [hh1];rfl));clear hh1 HNEXT;go_wp2_with fail;go_roundw
          case rel=>exact ⟨k+1,by omega,by go_num,HN.out,HR15.out,HB5.out,HBL5.out⟩
          case measure=>simp [intOf];omega
         |true =>
          have HNN:=hid (fun (h:Aa s u0=true)=>HNEXT.out (by rw [h,hh1];rfl))
          have HBAD:=hid (show Aa s u0=false->¬ AP m.v s from fun h h2=>by
           have h3:=h2.before _ (by rw [HBV.out];exact HME.out);rw [h,hh1] at h3;cases h3)
          clear hh1 HNEXT;go_wp2_with fail;refine (HHAS.out u0 w5).mono ?_;rintro e w6 ⟨rfl,hw⟩;obtain rfl:=hw.symm
          cases hh0:Aa s u0 with
          |true =>
           have HN:=hid (HNN.out hh0);clear hh0 HNN HBAD;go_wp2_with fail;go_roundw
           case rel=>exact ⟨k+1,by omega,by go_num,HN.out,HR15.out,HB5.out,HBL5.out⟩
           case measure=>simp [intOf];omega
          |false =>
           have HNA:=hid (HBAD.out hh0);clear hh0 HNN HBAD;go_wp2_with fail;go_ret;exact AE.no (by decide) HNA.out HB5.out
        ·have hlt1:¬ (k:Int)<(m.before.length:Int):=by omega
         have HALLb:=hid (ap (l:=m.before) (P:=fun p=>(Aa s p.2 && !Aa s p.1)=false) fun i hi=>HNO.out i hi (by omega));clear HNO;have q4:=CX HR1.out 4 (.slice m.xA m.apart.length m.xc) rfl;have q5:=CX HR1.out 5 (.slice m.bA m.before.length m.bc) rfl;have q3:=CX HR1.out 3 (.slice m.oA m.ords.length m.oc) rfl;go_wp2_with fail;refine (HCH.out wr HB.out).mono ?_
         rintro e w2 ⟨CA,ccp,L,rfl,hcw,hcm,hcc,hb2⟩;have HCM:=hid hcm;have HCC:=hid hcc;have HCW:=hid (OR.cells hcw);have HB2:=hid (bL HB.out hb2);have HBL2:=hid (bL HBL.out hb2);have HOW2:=hid (HOW.out.below HBL2.out);have HR12:=hid (rK HR1.out hb2);clear hcw hcm hcc hb2 q3 q4 q5 HB HBL HR1 HOW;have HOW:=HOW2;clear HOW2;go_wp2_with fail
         go_loopw [91] (fun j wr=>∃ k:Nat,k<=l.length/\j=.int .i64 k/\(∀ i (h:i<l.length),i<k->(∀ k2:Nat,l[i]=(k2:Int)->¬ Path m.ords.length m.before k2 k2))/\wr.heap[h1]? = some (.cells (iQ m) 30)/\Below w.heap.size w wr/\Below w2.heap.size w2 wr) (fun j _=>l.length - (intOf j).toNat)
         case atStart=>exact ⟨0,Nat.zero_le _,rfl,fun i _ h=>absurd h (Nat.not_lt_zero _),HR12.out,HB2.out,Below.refl _ _⟩
         case round =>
          clear HR12 HB2;obtain ⟨k,hk,rfl,hno,hr1,hbel,hbl1⟩:=hrel;have HB:=hid hbel;have HBL:=hid hbl1;have HNO:=hid hno;have HR1:=hid hr1;clear hbel hno hr1 hbl1;by_cases hlt:k<l.length
          ·have hlt1:(k:Int)<(l.length:Int):=by omega
           obtain ⟨g1,o1,hA1,hg1,hx1⟩:=HOW.out (by rw [il];omega);have x0:=(HBL.out.cell (p:=⟨g1,o1+k,none⟩) hg1).trans (hx1 k _ (iK l k hlt));have hu:=HLT.out _ (List.getElem_mem hlt);have HME:=hid (show l[k] ∈ MS s by rw [<- HL.out];exact List.getElem_mem hlt)
           have HNEXT:=hid (show (∀ k2:Nat,l[k]=(k2:Int)->¬ Path m.ords.length m.before k2 k2)->∀ i (h:i<l.length),i<k+1->(∀ k2:Nat,l[i]=(k2:Int)->¬ Path m.ords.length m.before k2 k2) from fun h i hi hik=>by
            by_cases e:i=k
            ·subst e;exact h
            ·exact HNO.out i hi (by omega))
           rw [hA1];clear hx1 hA1;obtain ⟨u,hu2⟩:∃ u,u=l[k]:=⟨_,rfl⟩
           rw [<- hu2] at x0 hu HME HNEXT;clear hu2;obtain ⟨o,ho⟩:∃ o:Nat,u=(o:Int):=⟨u.toNat,by omega⟩
           subst ho;have hol1:o<m.ords.length:=by omega
           have HTB:=hid (HCM.out.iff HCC.out hol1 (a:=o));have hlt8:=HCM.out.lt o;obtain ⟨g2,o2,hA2,hg2,hx2⟩:=HCW.out (by rw [il,iL_len,HCM.out.len];omega);have x2:=(HBL.out.cell (p:=⟨g2,o2+o,none⟩) hg2).trans (hx2 o _ (by have h:=iL_get (L:=L) (k:=o) (by rw [HCM.out.len];exact hol1);rw [List.getElem?_toArray] at h;exact h));rw [hA2];clear hx2 hA2
           have HHC:=hid (fun w'=>mA (L.getD o 0) (o:Int) w' (by omega));rw [Ht (by omega)] at HHC;generalize L.getD o 0=q at *;go_wp2_with fail;refine (HHC.out wr).mono ?_;rintro e w6 ⟨rfl,hw⟩;obtain rfl:=hw.symm
           cases hq:q.testBit o with
           |true =>
            have HNA:=hid (show ¬ AP m.v s from fun h=>h.loop o HME.out (by rw [HNV.out,HBV.out];exact HTB.out.1 hq));clear hq HTB HNEXT;go_wp2_with fail;go_ret;exact AE.no (by decide) HNA.out HB.out
           |false =>
            have HN:=hid (HNEXT.out fun k2 hk2=>by
             have:k2=o:=by omega
             subst this;intro hp;rw [HTB.out.2 hp] at hq;cases hq)
            clear hq HTB HNEXT;go_wp2_with fail;go_roundw
            case rel=>exact ⟨k+1,by omega,by go_num,HN.out,HR1.out,HB.out,HBL.out⟩
            case measure=>simp [intOf];omega
          ·have hlt1:¬ (k:Int)<(l.length:Int):=by omega
           have HALL:=hid (aM (l:=l) (P:=fun u=>(∀ k2:Nat,u=(k2:Int)->¬ Path m.ords.length m.before k2 k2)) fun i hi=>HNO.out i hi (by omega));clear HNO;have HFIN:=hid (show AP m.v s from ⟨by rw [<- HL.out];exact HALLo.out,by rw [HXV.out];exact HALLx.out,by rw [HBV.out];exact HALLb.out,fun k2 hk2=>by rw [HNV.out,HBV.out];exact HALL.out _ (by rw [HL.out];exact hk2) k2 rfl⟩)
           go_wp2_with fail;go_ret;exact AE.yes HFIN.out HB.out
end Go.Proofs.YtjcekdiocliddaaGreatDoor

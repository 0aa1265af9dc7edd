/- slices.Clone of times. -/
import Derived.Test.YtjcekdiocliddaaGreatDoorG71
import Derived.Lib.SliceRun
namespace Go.Proofs.YtjcekdiocliddaaGreatDoor
open Lib (hid)
open Go.RowKit Num Txt Pf Tk
set_option maxHeartbeats 32000000
set_option maxRecDepth 100000
set_option linter.unusedVariables false
attribute [local go_sem] BS Bg Bt Bm Be Ba
theorem tm_one {l:List TI}:∀ u ∈ l.flatMap TC,u.oneCell'=true:=by
 intro u hu;obtain ⟨f,_,hf⟩:=List.mem_flatMap.1 hu;unfold TC at hf;simp only [List.mem_cons,List.not_mem_nil,or_false] at hf;rcases hf with rfl | rfl | rfl | rfl <;> rfl
theorem tm_len (l:List TI):(l.flatMap TC).length=l.length*4:=fl TC tn l
abbrev TmO (w:World) (Bs:Nat) (A:Option Addr) (c:Nat) (ts:List TI):Prop:=OR w Bs 158 4 A ts.length c (ts.flatMap TC)
theorem TmO.at_ {w:World} {Bs:Nat} {A:Option Addr} {c:Nat} {ts:List TI} (h:TmO w Bs A c ts):Tt w A c ts:=⟨OR.cells h,OR.cap h,fun a ha=>by
  rcases OR.form h with hf | ⟨g,hf⟩
  ·rw [hf] at ha;cases ha
  ·rw [hf] at ha
   injection ha with ha
   subst ha;have h2:OR w Bs 158 4 (some ⟨g,0,none⟩) ts.length c (ts.flatMap TC):=by rw [<- hf];exact h
   exact h2.typ.2.2,fun ha=>by
  rcases h.2 with ⟨hv,_⟩ | ⟨g',cap,cur,hv,_⟩
  ·injection hv
  ·injection hv with hv _ _;rw [ha] at hv;cases hv⟩
theorem clone_any (ts:List TI) (A:Option Addr) (c:Nat) (w:World) (h:Tt w A c ts) (hl:ts.length<=20) :
  Calls Tryz.prog 126 #[.slice A ts.length c] w fun e w'=>∃ (A':Option Addr) (c':Nat),e=.returned (.slice A' ts.length c')/\TmO w' w.heap.size A' c' ts/\Below w.heap.size w w':=by
 obtain ⟨hc,hn,hx9⟩:=h;clear hx9
 cases A with
 |none =>
  have h0:ts=[]:=by
   rcases ts with _ | ⟨t,ts⟩
   ·rfl
   ·obtain ⟨b,off,e,_⟩:=hc (by simp [TC]);cases e
  subst h0;have HB:=hid (Below.refl w.heap.size w);have q37:(binOp .eql 37 (.slice none 0 c) (.slice none 0 0)).run Tryz.prog w=.ok (.bool true) w:=Lib.run_eql_slice_nil w _ _ none 0 c 0 0 Tryz.underlying37;clear hc hn;go_enter Tryz.func126,Tryz.ntmps126;go_wp2_with fail;go_ret;exact ⟨none,0,rfl,OR.nil _ _ _ _,HB.out⟩
 |some a =>
  have HC:=hid hc;unfold maxLen at hn;have q37:(binOp .eql 37 (.slice (some a) ts.length c) (.slice none 0 0)).run Tryz.prog w=.ok (.bool false) w:=Lib.run_eql_slice_nil w _ _ (some a) ts.length c 0 0 Tryz.underlying37;clear hc;go_enter Tryz.func126,Tryz.ntmps126;obtain ⟨n4,p4⟩:=Na w (.cells #[] 158);have HN4:=hid n4
  have ho4:OR (w.alloc (.cells #[] 158)) w.heap.size 158 4 (some ⟨w.heap.size,0,none⟩) 0 0 []:=⟨rfl,.inr ⟨w.heap.size,0,#[],rfl,Nat.le_refl _,p4,Nat.le_refl _,by decide,rfl,rfl⟩⟩
  have HO4:=hid ho4;clear p4 n4 ho4;go_wp2_with (at_builtin;refine wp_appmR el_tm rfl _ _ rfl w.heap.size (some ⟨w.heap.size,0,none⟩) 0 0 [] _ (some a) ts.length c (ts.flatMap TC) rfl HO4.out rfl (HC.out.below HN4.out) (fun h=>by cases h) (tm_len ts) tm_one (by unfold maxLen;omega) (by omega) HN4.out.size ?_;intro A' c' w7 hown7 hb7)
  go_ret;refine ⟨A',c',?_,?_,HN4.out.trans hb7⟩
  ·rfl
  ·have h:=hown7
   rw [Nat.zero_add,List.nil_append] at h;exact h
end Go.Proofs.YtjcekdiocliddaaGreatDoor
namespace Go.Proofs.YtjcekdiocliddaaGreatDoor
open Lib (hid)
open Go.RowKit Num Txt Pf Tk
set_option linter.unusedVariables false
def LR (A:Option Addr) (c:Nat) (l:LV):Array Value:=#[.int .i64 l.ready,.int .i64 l.since,.bool l.sh.rest,.int .i64 l.sh.dep,.slice A l.sh.times.length c,.int .i64 l.sh.fin,.int .i64 l.sh.miles]
def lZ:LV:=⟨0,0,⟨false,0,[],0,0⟩⟩
theorem tm_trip:158≠84:=by decide
theorem tL:158≠150:=by decide
structure LbS (w0:World) (q:Ab) (g1 g3 g4:Nat) (w:World) (A:Option Addr) (c:Nat) (l:LV):Prop where
 r1:w.heap[g1]? = some (.cells (TR q) 84)
 r3:w.heap[g3]? = some (.cells (LR none 0 lZ) 150)
 r4:w.heap[g4]? = some (.cells (LR A c l) 150)
 own:TmO w w0.heap.size A c l.sh.times
 bel:Below w0.heap.size w0 w
 n:g1≠g4/\g3≠g4/\w0.heap.size<=g3/\w0.heap.size<=g4
section
variable {w0 w w':World} {q:Ab} {g1 g3 g4:Nat} {A:Option Addr} {c:Nat} {l l':LV}
theorem LbS.below (h:LbS w0 q g1 g3 g4 w A c l) (hb:Below w.heap.size w w'):LbS w0 q g1 g3 g4 w' A c l:=⟨rK h.r1 hb,rK h.r3 hb,rK h.r4 hb,OR.below h.own hb,bL h.bel hb,h.n⟩
theorem LbS.put (h:LbS w0 q g1 g3 g4 w A c l) (i:Nat) (v:Value) (l':LV) (hl:(LR A c l).setIfInBounds i v=LR A c l') (ht:l'.sh.times=l.sh.times):LbS w0 q g1 g3 g4 (w.setCell ⟨g4,i,none⟩ v) A c l':=by
 have hk:=(KpB.refl g4 w).store i v;refine ⟨hk.row h.r1 h.n.1,hk.row h.r3 h.n.2.1,?_,?_,h.bel.setCell h.n.2.2.2 _,h.n⟩
 ·rw [Hp h.r4,hl]
 ·rw [ht];exact OR.keptB h.own hk h.r4 tL
theorem LbS.cells (h:LbS w0 q g1 g3 g4 w A c l):w.cell? ⟨g4,0,none⟩=some (.int .i64 l.ready)/\w.cell? ⟨g4,1,none⟩=some (.int .i64 l.since)/\w.cell? ⟨g4,2,none⟩=some (.bool l.sh.rest)/\w.cell? ⟨g4,3,none⟩=some (.int .i64 l.sh.dep)/\w.cell? ⟨g4,4,none⟩=some (.slice A l.sh.times.length c)/\w.cell? ⟨g4,5,none⟩=some (.int .i64 l.sh.fin)/\w.cell? ⟨g4,6,none⟩=some (.int .i64 l.sh.miles):=cells7 h.r4
theorem LbS.app (h:LbS w0 q g1 g3 g4 w A c l) {A':Option Addr} {c':Nat} {ts:List TI} (hb:Below w0.heap.size w w') (hk:KA A w w') (ho:TmO w' w0.heap.size A' c' ts) (hl:l'={ l with sh:={ l.sh with times:=ts } }) :
  LbS w0 q g1 g3 g4 (w'.setCell ⟨g4,4,none⟩ (.slice A' ts.length c')) A' c' l':=by
 subst hl;have r4:=hk.row h.r4 (OR.far h.own h.r4 tL);have hk2:=(KpB.refl g4 w').store 4 (.slice A' ts.length c');refine ⟨hk2.row (hk.row h.r1 (OR.far h.own h.r1 tm_trip)) h.n.1,hk2.row (hk.row h.r3 (OR.far h.own h.r3 tL)) h.n.2.1,?_,OR.keptB ho hk2 r4 tL,(h.bel.trans hb).setCell h.n.2.2.2 _,h.n⟩;rw [Hp r4];rfl
theorem LbS.start {A':Option Addr} {c':Nat} (r1:w.heap[g1]? = some (.cells (TR q) 84)) (r3:w.heap[g3]? = some (.cells (LR none 0 lZ) 150)) (r4:w.heap[g4]? = some (.cells (LR A c l) 150)) (own:TmO w w0.heap.size A' c' l.sh.times) (bel:Below w0.heap.size w0 w) (n:g1≠g4/\g3≠g4/\w0.heap.size<=g3/\w0.heap.size<=g4):LbS w0 q g1 g3 g4 (w.setCell ⟨g4,4,none⟩ (.slice A' l.sh.times.length c')) A' c' l:=by
 have hk2:=(KpB.refl g4 w).store 4 (.slice A' l.sh.times.length c');refine ⟨hk2.row r1 n.1,hk2.row r3 n.2.1,?_,OR.keptB own hk2 r4 tL,bel.setCell n.2.2.2 _,n⟩;rw [Hp r4];rfl
theorem LbS.time (h:LbS w0 q g1 g3 g4 w A c l) {b j:Nat} {v:Value} {ts:List TI} (hA:A=some ⟨b,0,none⟩) (hts:(l.sh.times.flatMap TC).set j v=ts.flatMap TC) (hn:ts.length=l.sh.times.length) (hl:l'={ l with sh:={ l.sh with times:=ts } }):LbS w0 q g1 g3 g4 (w.setCell ⟨b,j,none⟩ v) A c l':=by
 subst hl hA;have hk:=(KpB.refl b w).store j v;have ho:OR w w0.heap.size 158 4 (some ⟨b,0,none⟩) l.sh.times.length c (l.sh.times.flatMap TC):=h.own;obtain ⟨hbb,_,cur,hcur⟩:=ho.typ
 have hne:∀ {g:Nat} {cs:Array Value} {t:TypeId},w.heap[g]? = some (.cells cs t)->158≠t->g≠b:=fun {g cs t} hg ht e=>by
  subst e;rw [hcur] at hg;injection hg with hg;injection hg with _ hg _;exact ht hg
 refine ⟨hk.row h.r1 (hne h.r1 tm_trip),hk.row h.r3 (hne h.r3 tL),?_,?_,h.bel.setCell hbb _,h.n⟩
 ·rw [hk.row h.r4 (hne h.r4 tL)]
  show some (Obj.cells (LR _ _ l) _ _)=_
  unfold LR;rw [<- hn]
 ·have:=(World.ownsRow.stored ho j v).1
  rw [hts,<- hn] at this;exact this
end
theorem flat_set_rest (ts:List TI):∀ (k:Nat) (b:Bool),k<ts.length->(ts.flatMap TC).set (k*4+3) (.bool b)=(ts.modify k fun t=>{ t with rest:=b }).flatMap TC:=by
 induction ts with
 |nil=>intro k b h;exact absurd h (by simp)
 |cons a ts ih =>
  intro k b h
  cases k with
  |zero=>rfl
  |succ k =>
   rw [List.flatMap_cons,List.modify_succ_cons,List.flatMap_cons,List.set_append_right _ _ (by rw [tn];omega),tn,show (k+1)*4+3 - 4=k*4+3 by omega,ih k b (by simpa using h)]
theorem flat_set_dep (ts:List TI):∀ (k:Nat) (d:Int),k<ts.length->(ts.flatMap TC).set (k*4+2) (.int .i64 d)=(ts.modify k fun t=>{ t with dep:=d }).flatMap TC:=by
 induction ts with
 |nil=>intro k b h;exact absurd h (by simp)
 |cons a ts ih =>
  intro k b h
  cases k with
  |zero=>rfl
  |succ k =>
   rw [List.flatMap_cons,List.modify_succ_cons,List.flatMap_cons,List.set_append_right _ _ (by rw [tn];omega),tn,show (k+1)*4+2 - 4=k*4+2 by omega,ih k b (by simpa using h)]
theorem setDep_two (s:SV) (k:Nat) (b:Bool) (d:Int) (h0:k≠0):sD s k b d={ s with times:=(s.times.modify (k - 1) fun t=>{ t with rest:=b }).modify (k - 1) fun t=>{ t with dep:=d } }:=by
 unfold sD;rw [if_neg h0,List.modify_modify_eq];rfl
set_option maxHeartbeats 32000000
set_option maxRecDepth 100000
attribute [local go_sem] BS Bg Bt Bm Be Ba
def NE (q:Ab) (l:LV) (done:Nat) (rest:Bool) (w:World) (e:Ending) (w':World):Prop :=
 (match nP q.v l done rest with
 |(some l',_)=>∃ A c,e=.returned (.tuple #[Db A c l',.int .i64 0])/\Tt w' A c l'.sh.times
 |(none,k)=>k≠0/\e=.returned (.tuple #[Db none 0 lZ,.int .i64 k]))/\Below w.heap.size w w'
theorem NE.no {q:Ab} {l:LV} {done:Nat} {rest:Bool} {w w':World} {k:Int} (h:nP q.v l done rest=(none,k)) (hk:k≠0) (hb:Below w.heap.size w w'):NE q l done rest w (.returned (.tuple #[Db none 0 lZ,.int .i64 k])) w':=by
 unfold NE;rw [h];exact ⟨⟨hk,rfl⟩,hb⟩
theorem NE.yes {q:Ab} {l l':LV} {done:Nat} {rest:Bool} {w w':World} {z:Int} {A:Option Addr} {c:Nat} (h:nP q.v l done rest=(some l',z)) (ht:Tt w' A c l'.sh.times) (hb:Below w.heap.size w w'):NE q l done rest w (.returned (.tuple #[Db A c l',.int .i64 0])) w':=by
 unfold NE;rw [h];exact ⟨⟨A,c,rfl,ht⟩,hb⟩
theorem nextP_end {p:Tr} {l:LV} {done:Nat} {rest:Bool} {dep sin ga gm gz:Int} {sd:SV} (hd:dep=l.ready+(if rest then p.t.rest else 0)) (hs:sin=if rest then 0 else l.since) (hsd:sd=sD l.sh done rest dep) (hst:p.stops[done]? = none) (hg:gP p.x p.t.prof (pP p done) p.t.tgt dep=(ga,gm,gz)) :
  nP p l done rest=if gz≠0 then (none,12) else if ga > p.t.cls then (none,15) else if sin+ga - dep > p.t.drive then (none,16) else (some ⟨ga,sin+ga - dep,{ sd with fin:=ga,miles:=sd.miles+gm }⟩,0):=by
 subst hsd hd hs;unfold nP;simp only [hst,hg]
theorem nextP_mid {p:Tr} {l:LV} {done:Nat} {rest:Bool} {dep sin ga gm gz:Int} {sd:SV} {s:St} (hd:dep=l.ready+(if rest then p.t.rest else 0)) (hs:sin=if rest then 0 else l.since) (hsd:sd=sD l.sh done rest dep) (hst:p.stops[done]? = some s) (hg:gP p.x p.t.prof (pP p done) s.place dep=(ga,gm,gz)) :
  nP p l done rest=if gz≠0 then (none,12) else if max ga s.opn > s.cls then (none,14) else if sin+ga - dep > p.t.drive then (none,16) else (some ⟨max ga s.opn+s.serv,sin+ga - dep,{ sd with times:=sd.times ++ [⟨ga,max ga s.opn,0,false⟩],miles:=sd.miles+gm }⟩,0):=by
 subst hsd hd hs;unfold nP;simp only [hst,hg]
theorem dnext_any (q:Ab) (m:LM) (done:Nat) (rest:Bool) (cs:List Bool) (w:World) (hq:TT w q) (hm:Cj w m) (hok:LabOK q.v done cs m.l) (hd:done<=q.stops.length) (h8:q.stops.length<=8) (hT:Tb w) :
  Calls Tryz.prog 72 #[tr q,Db m.A m.c m.l,.int .i64 done,.bool rest] w (NE q m.l done rest w):=by
 obtain ⟨k1,k2,k3,k4⟩:=Av w (.cells (TR q) 84) (.cells (LR m.A m.c m.l) 150) (.cells (LR none 0 lZ) 150);have HB:=hid k4;have HK1:=hid k1;have HK2:=hid k2;have HK3:=hid k3;have HQ:=hid hq;have HM:=hid hm;have HO:=hid hok;have HT:=hid hT;obtain ⟨hr0,hr1⟩:=hok.ready;obtain ⟨hs0,hs1⟩:=hok.since;obtain ⟨hm0,hm1⟩:=hok.miles
 have htl:m.l.sh.times.length<=8:=by have:=hok.times;have:q.v.stops.length=q.stops.length:=rfl;omega
 have htk:=hok.times;have hty:TO q.t.t:=hq.trip.t;obtain ⟨ht0,ht1⟩:=hty.rest;obtain ⟨ht2,ht3⟩:=hty.drive;have ht4:=hty.cls;have HTK:=hid htk;clear hq hm hok hT k1 k2 k3 k4 hty htk;obtain ⟨dep,hdep⟩:∃ d,d=m.l.ready+(if rest then q.t.t.rest else 0):=⟨_,rfl⟩
 obtain ⟨sin,hsin⟩:∃ d,d=if rest then 0 else m.l.since:=⟨_,rfl⟩
 have HDP:=hid hdep;have HSN:=hid hsin;have hdb:0<=dep/\dep<=104096:=by rw [hdep];split <;> omega
 have hsb:-1000000*9<=sin/\sin<=4096:=by rw [hsin];split <;> omega
 clear hdep hsin;go_enter Tryz.func72,Tryz.ntmps72;(try simp only [Bm]);go_upto_region 1 with fail
 rw [show ((w.alloc (.cells #[.slice q.m.pA q.m.places.length q.m.pc,.slice q.m.aA q.m.arcs.length q.m.ac,.slice q.m.tA q.m.types.length q.m.tc,.slice q.m.oA q.m.ords.length q.m.oc,.slice q.m.xA q.m.apart.length q.m.xc,.slice q.m.bA q.m.before.length q.m.bc,.string (B q.t.t.name),.int .i64 q.t.t.count,.int .i64 q.t.t.frm,.int .i64 q.t.t.tgt,.slice q.t.A q.t.t.cap.length q.t.ca,.int .i64 q.t.t.skills,.int .i64 q.t.t.prof,.int .i64 q.t.t.opn,.int .i64 q.t.t.cls,.int .i64 q.t.t.drive,.int .i64 q.t.t.rest,.int .i64 q.t.t.fixed,.int .i64 q.t.t.mile,.int .i64 q.t.t.tick,.int .i64 q.r.r.kind,.int .i64 q.r.r.start,.slice q.r.A q.r.r.rests.length q.r.ca,.slice q.r.C q.r.r.vis.length q.r.cc,.slice q.A q.stops.length q.c] 84)).alloc (.cells #[.int .i64 m.l.ready,.int .i64 m.l.since,.bool m.l.sh.rest,.int .i64 m.l.sh.dep,.slice m.A m.l.sh.times.length m.c,.int .i64 m.l.sh.fin,.int .i64 m.l.sh.miles] 150)).alloc (.cells #[.int .i64 0,.int .i64 0,.bool false,.int .i64 0,.slice none 0 0,.int .i64 0,.int .i64 0] 150)=((w.alloc (.cells (TR q) 84)).alloc (.cells (LR m.A m.c m.l) 150)).alloc (.cells (LR none 0 lZ) 150) from rfl]
 generalize ((w.alloc (.cells (TR q) 84)).alloc (.cells (LR m.A m.c m.l) 150)).alloc (.cells (LR none 0 lZ) 150)=w3 at *;obtain ⟨g1,hg1⟩:∃ g1,g1=w.heap.size:=⟨_,rfl⟩
 obtain ⟨g2,hg2⟩:∃ g2,g2=w.heap.size+1:=⟨_,rfl⟩
 obtain ⟨g3,hg3⟩:∃ g3,g3=w.heap.size+1+1:=⟨_,rfl⟩
 rw [<- hg3] at HK3;rw [<- hg3,<- hg2,<- hg1];rw [<- hg2] at HK2;rw [<- hg1] at HK1;have HG:=hid (show w.heap.size<=g3 by omega);clear hg1 hg2 hg3;have y0:=CX HK2.out 0 (.int .i64 m.l.ready) rfl;have y1:=CX HK2.out 1 (.int .i64 m.l.since) rfl;go_quiet (fail)
 have HB0:=hid (below_drewN (Below.refl w3.heap.size w3) nq);clear y0 y1;generalize w3.drewN nq=w4 at *;have HK10:=hid (rK HK1.out HB0.out);have HK20:=hid (rK HK2.out HB0.out);have HK30:=hid (rK HK3.out HB0.out);have HB00:=hid (bL HB.out HB0.out);clear HK1 HK2 HK3 HB HB0;go_upto_if 24 with (fail)
 go_cut [10,11] (fun x y wx=>x=.int .i64 dep/\y=.int .i64 sin/\wx=w4)
 case first =>
  as_aux_lemma =>
   have x16:=CX HK10.out 16 (.int .i64 q.t.t.rest) rfl
   cases rest with
   |true =>
    have hd2:=HDP.out;have hs2:=HSN.out;rw [if_pos rfl] at hd2 hs2;have HD2:=hid hd2;have HS2:=hid hs2;clear hd2 hs2;go_wp2_with fail;go_meet;exact ⟨by rw [HD2.out],by rw [HS2.out],rfl⟩
   |false =>
    have hd2:=HDP.out;have hs2:=HSN.out;rw [if_neg (by decide)] at hd2 hs2;rw [Int.add_zero] at hd2;have HD2:=hid hd2;have HS2:=hid hs2;clear hd2 hs2;go_wp2_with fail;go_meet;exact ⟨by rw [HD2.out],by rw [HS2.out],rfl⟩
 case rest =>
  obtain ⟨rfl,rfl,hwc⟩:=hcut;obtain rfl:=hwc.symm;have y2:=CX HK20.out 2 (.bool m.l.sh.rest) rfl;have y3:=CX HK20.out 3 (.int .i64 m.l.sh.dep) rfl;have y4:=CX HK20.out 4 (.slice m.A m.l.sh.times.length m.c) rfl;have y5:=CX HK20.out 5 (.int .i64 m.l.sh.fin) rfl;have y6:=CX HK20.out 6 (.int .i64 m.l.sh.miles) rfl;obtain ⟨n5,p5⟩:=Na w4 (.cells (LR m.A m.c ⟨0,0,m.l.sh⟩) 150)
  have HB5:=hid (bL HB00.out n5);have HR15:=hid (rK HK10.out n5);have HR25:=hid (rK HK20.out n5);have HR35:=hid (rK HK30.out n5);have HN:=hid (show g1≠w4.heap.size/\g3≠w4.heap.size/\w.heap.size<=g3/\w.heap.size<=w4.heap.size from ⟨Nat.ne_of_lt (lh HK10.out),Nat.ne_of_lt (lh HK30.out),HG.out,HB00.out.size⟩);clear n5;go_upto_region 6 with fail
  rw [show w4.alloc (.cells #[.int .i64 0,.int .i64 0,.bool m.l.sh.rest,.int .i64 m.l.sh.dep,.slice m.A m.l.sh.times.length m.c,.int .i64 m.l.sh.fin,.int .i64 m.l.sh.miles] 150)=w4.alloc (.cells (LR m.A m.c ⟨0,0,m.l.sh⟩) 150) from rfl];generalize w4.alloc (.cells (LR m.A m.c ⟨0,0,m.l.sh⟩) 150)=w5 at *;obtain ⟨g4,hg4⟩:∃ g4,g4=w4.heap.size:=⟨_,rfl⟩
  rw [<- hg4] at p5 HN;rw [<- hg4];have HP5:=hid p5;clear y2 y3 y4 y5 y6 HK10 HK20 HK30 HB00 hg4 p5;have y4:=CX HR25.out 4 (.slice m.A m.l.sh.times.length m.c) rfl;have HCL:=hid (clone_any m.l.sh.times m.A m.c w5 (HM.out.below HB5.out) (by omega));go_wp2_with fail;refine HCL.out.mono ?_;rintro e w6 ⟨A,c,rfl,hown,hb6⟩;have hn56:=HB5.out.size
  have HLS:=hid (LbS.start (w0:=w) (rK HR15.out hb6) (rK HR35.out hb6) (rK HP5.out hb6) (hown.mono hn56) (bL HB5.out hb6) HN.out);have z4:=CX (rK HP5.out hb6) 4 (.slice m.A m.l.sh.times.length m.c) rfl;have zf:=fz (rK HP5.out hb6) 4;clear hown hb6 HCL y4 HR15 HR25 HR35 HP5 HB5;go_upto_region 7 with fail;clear z4 zf
  generalize w6.setCell ⟨g4,4,none⟩ (.slice A m.l.sh.times.length c)=w7 at *;go_upto_if 40 with (fail)
  go_cut [] (fun wx=>LbS w q g1 g3 g4 wx A c ⟨0,0,sD m.l.sh done rest dep⟩)
  case first =>
   as_aux_lemma =>
    obtain ⟨y0,y1,y2,y3,y4,y5,y6⟩:=HLS.out.cells;by_cases h0:done=0
    ·have hb0:((done:Int) == 0)=true:=iB (by omega)
     have HE:=hid (show sD m.l.sh done rest dep={ m.l.sh with rest:=rest,dep:=dep } by unfold sD;rw [if_pos h0]);have LS1:=HLS.out.put 2 (.bool rest) ⟨0,0,{ m.l.sh with rest:=rest }⟩ rfl rfl;have HF:=hid (LS1.put 3 (.int .i64 dep) ⟨0,0,{ m.l.sh with rest:=rest,dep:=dep }⟩ rfl rfl);have z2:=fz HLS.out.r4 2;have z3:=fz LS1.r4 3;have y3':=LS1.cells.2.2.2.1;clear h0 LS1
     go_wp2_with fail;go_meet;rw [HE.out];exact HF.out
    ·have hb0:((done:Int) == 0)=false:=ib (by omega)
     have HDN:=hid (show sD m.l.sh done rest dep=_ from setDep_two m.l.sh done rest dep h0);obtain ⟨k,hk⟩:∃ k,done=k+1:=⟨done - 1,by omega⟩
     have hkm:(done:Int) - 1=(k:Int):=by omega
     have htlt:k<m.l.sh.times.length:=by have h:=HTK.out;have h2:q.v.stops.length=q.stops.length:=rfl;omega
     have hdl1:(k:Int)<(m.l.sh.times.length:Int):=by omega
     rw [show done - 1=k by omega] at HDN;obtain ⟨b,hA,_,hbl,hcell,hfz⟩:=OR.at_ HLS.out.own (show 0<m.l.sh.times.length by omega)
     have c3:w7.cell? ⟨b,k*4+3,none⟩=some (.bool m.l.sh.times[k].rest):=by
      rw [hcell _ (show k*4+3<m.l.sh.times.length*4 by omega)];exact flat_get TC tn m.l.sh.times k htlt 3 (by decide)
     have f3:=hfz (k*4+3);have HL1:=hid (HLS.out.time (v:=.bool rest) (l':=⟨0,0,{ m.l.sh with times:=m.l.sh.times.modify k fun t=>{ t with rest:=rest } }⟩) hA (flat_set_rest m.l.sh.times k rest htlt) (by simp) rfl);have HHA:=hid hA;rw [hA] at y4;clear h0 hk hcell hfz hA y0 y1 y2 y3 y5 y6;generalize m.l.sh.times[k].rest=ov at *;go_upto_region 11 with fail;clear y4 c3 f3
     generalize w7.setCell ⟨b,k*4+3,none⟩ (.bool rest)=w8 at *;obtain ⟨y0,y1,y2,y3,y4,y5,y6⟩:=HL1.out.cells;obtain ⟨b2,hA2,_,hbl2,hcell,hfz⟩:=OR.at_ HL1.out.own (show 0<(m.l.sh.times.modify k fun t=>{ t with rest:=rest }).length by rw [List.length_modify];omega);have hbb:b2=b:=by rw [HHA.out] at hA2;injection hA2 with hA2;injection hA2 with hA2 _ _;exact hA2.symm
     subst hbb;have htlt2:k<(m.l.sh.times.modify k fun t=>{ t with rest:=rest }).length:=by rw [List.length_modify];exact htlt
     have c2:w8.cell? ⟨b2,k*4+2,none⟩=some (.int .i64 ((m.l.sh.times.modify k fun t=>{ t with rest:=rest })[k]'htlt2).dep):=by
      rw [hcell _ (show k*4+2<(m.l.sh.times.modify k fun t=>{ t with rest:=rest }).length*4 by omega)];exact flat_get TC tn _ k htlt2 2 (by decide)
     have f2:=hfz (k*4+2);have HL2:=hid (HL1.out.time (v:=.int .i64 dep) (l':=⟨0,0,{ m.l.sh with times:=(m.l.sh.times.modify k fun t=>{ t with rest:=rest }).modify k fun t=>{ t with dep:=dep } }⟩) hA2 (flat_set_dep _ k dep htlt2) (by simp) rfl)
     have y4':w8.cell? ⟨g4,4,none⟩=some (.slice (some ⟨b2,0,none⟩) m.l.sh.times.length c):=by
      have h:=y4;rw [hA2] at h;simpa using h
     clear y0 y1 y2 y3 y4 y5 y6 hcell hfz hA2;generalize ((m.l.sh.times.modify k fun t=>{ t with rest:=rest })[k]'htlt2).dep=od at *;go_wp2_with fail;go_meet;rw [HDN.out];exact HL2.out
  case rest =>
   have HL:=hid hcut;clear HLS hcut;obtain ⟨sd,hsd⟩:∃ sd,sd=sD m.l.sh done rest dep:=⟨_,rfl⟩
   have hsl:sd.times.length=m.l.sh.times.length:=by rw [hsd];exact Sn _ _ _ _
   have hsm:sd.miles=m.l.sh.miles:=by rw [hsd];exact (SD _ _ _ _).1
   have HSD:=hid hsd;rw [<- hsd] at HL;clear hsd;have hsl8:sd.times.length<=8:=by omega
   have hsm8:0<=sd.miles/\sd.miles<=90000:=by omega
   have HSL:=hid hsl;clear hsl hsm;have x9:=CX HL.out.r1 9 (.int .i64 q.t.t.tgt) rfl;have x24:=CX HL.out.r1 24 (.slice q.A q.stops.length q.c) rfl;have hsc:=HQ.out.sl;unfold maxLen at hsc;have HPL:=hid (fun (wz:World) (h:Below wc.heap.size wc wz)=>dplace_any q done wz ((HQ.out.below (HL.out.bel.trans (h.mono HL.out.bel.size))).stops) HQ.out.sl hd);by_cases hend:done=q.stops.length
   ·have he1:((done:Int) == (q.stops.length:Int))=true:=iB (by omega)
    have hst:q.v.stops[done]? = none:=List.getElem?_eq_none (by show q.stops.length<=done;omega);obtain ⟨hga0,hga1,hgm0,hgm1⟩:=GP HQ.out.ok q.t.t.prof (pP q.v done) q.t.t.tgt hdb.1;obtain ⟨ga,gm,gz,hg⟩:∃ ga gm gz,gP q.m.v q.t.t.prof (pP q.v done) q.t.t.tgt dep=(ga,gm,gz):=⟨_,_,_,rfl⟩
    have HNX:=hid (nextP_end HDP.out HSN.out HSD.out hst hg);simp only [hg] at hga0 hga1 hgm0 hgm1
    have HGO:=hid (fun (wz:World) (h:Below wc.heap.size wc wz)=>(Ny q.m q.t.t.prof (pP q.v done) q.t.t.tgt dep wz (HQ.out.m.below (HL.out.bel.trans (h.mono HL.out.bel.size))) HQ.out.ok ⟨hdb.1,by omega⟩ (HT.out.below (HL.out.bel.trans (h.mono HL.out.bel.size)))).mono (fun e w' he=>(by unfold GoE at he;rw [hg] at he;exact he:e=.returned (.tuple #[.int .i64 ga,.int .i64 gm,.int .i64 gz])/\Below wz.heap.size wz w')))
    clear hst hg hend;generalize pP q.v done=frm at *;go_upto_region 16 with fail;clear x9 x24;have HKP:=hid (show ∀ w' w2,(w'.heap[g1]? = some (.cells (TR q) 84)/\Below wc.heap.size wc w')->Below w'.heap.size w' w2->(w2.heap[g1]? = some (.cells (TR q) 84)/\Below wc.heap.size wc w2) from fun w' w2 ⟨h0,h1⟩ hb=>⟨rK h0 hb,bL h1 hb⟩)
    have hS0:(fun w'=>w'.heap[g1]? = some (.cells (TR q) 84)/\Below wc.heap.size wc w') wc.drew:=⟨HL.out.r1,(Below.refl _ wc).drew⟩
    refine wp_region_held_drew (S:=fun w'=>w'.heap[g1]? = some (.cells (TR q) 84)/\Below wc.heap.size wc w') (by kernel_rfl) hS0 (fun hHeld=>?_);refine td 0 ?_;refine td 1 ?_;(try simp only [Act.put,P1,pu,P3]);refine Tv 2 (v:=?_) ?_ ?_;rotate_left
    ·(intro w hSw;have q0:=CX hSw.1 0 (.slice q.m.pA q.m.places.length q.m.pc) rfl;have q1:=CX hSw.1 1 (.slice q.m.aA q.m.arcs.length q.m.ac) rfl;go_simp;(try with_reducible rfl))
    refine td 3 ?_;refine td 4 ?_;refine tq 5 (fun w hSw=>CX hSw.1 12 (.int .i64 q.t.t.prof) rfl) ?_;refine tkr 6 Tryz.underlying84 (fun w hSw=>hSw.1) ?_;refine td 7 ?_;refine td 9 ?_;refine td 10 ?_;(try simp only [Act.put,P1,pu,P3]);refine one 8 (fun K hK=>?_);go_simp;refine (HPL.out _ (And.right (by assumption))).mono ?_;rintro e wy ⟨rfl,hby⟩
    refine hK.out _ _ (HKP.out _ _ (by assumption) hby) (fun hHeld=>?_);clear hK K;(try simp only [Act.put,P1,pu,P3]);refine one 11 (fun K hK=>?_);go_simp;refine (HGO.out _ (And.right (by assumption))).mono ?_;rintro e wz ⟨rfl,hbz⟩;refine hK.out _ _ (HKP.out _ _ (by assumption) hbz) (fun hHeld=>?_);clear hK K;refine td 12 ?_;refine td 13 ?_;refine td 14 ?_;refine td 15 ?_;refine td 16 ?_
    refine td 17 ?_;refine td 18 ?_;(try simp only [Act.put,P1,pu,P3]);refine wpAnyH_done (by kernel_rfl) ?_ _;have HLZ:=hid (HL.out.below (show Below wc.heap.size wc wz from And.right (by assumption)));clear HL HPL HGO hS0 hHeld;by_cases hz:gz=0
    ·subst hz
     have HN0:=hid (show nP q.v m.l done rest=if ga > q.t.t.cls then (none,15) else if sin+ga - dep > q.t.t.drive then (none,16) else (some ⟨ga,sin+ga - dep,{ sd with fin:=ga,miles:=sd.miles+gm }⟩,0) by rw [HNX.out,if_neg (fun h=>h rfl)];rfl);clear HNX;obtain ⟨y0,y1,y2,y3,y4,y5,y6⟩:=HLZ.out.cells;have zf:=fz HLZ.out.r4 6
     have HL1:=hid (HLZ.out.put 6 (.int .i64 (sd.miles+gm)) ⟨0,0,{ sd with miles:=sd.miles+gm }⟩ rfl rfl);go_upto_region 20 with fail;clear y0 y1 y2 y3 y4 y5 y6 zf;generalize wz.setCell ⟨g4,6,none⟩ (.int .i64 (sd.miles+gm))=wa at *;obtain ⟨y0,y1,y2,y3,y4,y5,y6⟩:=HL1.out.cells;have zf:=fz HL1.out.r4 1
     have HL2:=hid (HL1.out.put 1 (.int .i64 (sin+ga - dep)) ⟨0,sin+ga - dep,{ sd with miles:=sd.miles+gm }⟩ rfl rfl);go_upto_region 22 with fail;clear y0 y1 y2 y3 y4 y5 y6 zf;generalize wa.setCell ⟨g4,1,none⟩ (.int .i64 (sin+ga - dep))=wb at *;have x14:=CX HL2.out.r1 14 (.int .i64 q.t.t.cls) rfl;by_cases hcl:ga > q.t.t.cls
     ·have HN1:=hid (show nP q.v m.l done rest=(none,15) by rw [HN0.out,if_pos hcl])
      have hcl2:q.t.t.cls<ga:=hcl;clear HN0 hcl;have HS:=hid (rS (LR none 0 lZ) HL2.out.r3 HL2.out.bel HG.out);go_wp2_with (refine sw (LR none 0 lZ) HL2.out.r3 ?_)
      refine bodyPost_ret (rr rfl (lL HS.out.1) rfl rfl) rfl ?_;exact NE.no (HN1.out) (by decide) HS.out.2
     ·have HN1:=hid (show nP q.v m.l done rest=if sin+ga - dep > q.t.t.drive then (none,16) else (some ⟨ga,sin+ga - dep,{ sd with fin:=ga,miles:=sd.miles+gm }⟩,0) by rw [HN0.out,if_neg hcl])
      have hcl2:¬ q.t.t.cls<ga:=hcl;clear HN0 hcl;go_upto_region 24 with fail;clear x14;obtain ⟨y0,y1,y2,y3,y4,y5,y6⟩:=HL2.out.cells;have zf:=fz HL2.out.r4 5;have HL3:=hid (HL2.out.put 5 (.int .i64 ga) ⟨0,sin+ga - dep,{ sd with fin:=ga,miles:=sd.miles+gm }⟩ rfl rfl);go_upto_region 25 with fail;clear y0 y1 y2 y3 y4 y5 y6 zf;generalize wb.setCell ⟨g4,5,none⟩ (.int .i64 ga)=we at *
      obtain ⟨y0,y1,y2,y3,y4,y5,y6⟩:=HL3.out.cells;have zf:=fz HL3.out.r4 0;have HL4:=hid (HL3.out.put 0 (.int .i64 ga) ⟨ga,sin+ga - dep,{ sd with fin:=ga,miles:=sd.miles+gm }⟩ rfl rfl);go_upto_region 31 with fail;clear y0 y1 y2 y3 y4 y5 y6 zf;generalize we.setCell ⟨g4,0,none⟩ (.int .i64 ga)=wf at *;have x15:=CX HL4.out.r1 15 (.int .i64 q.t.t.drive) rfl
      obtain ⟨y0,y1,y2,y3,y4,y5,y6⟩:=HL4.out.cells;by_cases hdr:sin+ga - dep > q.t.t.drive
      ·have HN2:=hid (show nP q.v m.l done rest=(none,16) by rw [HN1.out,if_pos hdr])
       have hdr2:q.t.t.drive<sin+ga - dep:=hdr;clear HN1 hdr;go_upto_region 32 with fail;have HS:=hid (rS (LR none 0 lZ) HL4.out.r3 HL4.out.bel HG.out);go_wp2_with (refine sw (LR none 0 lZ) HL4.out.r3 ?_)
       refine bodyPost_ret (rr rfl (lL HS.out.1) rfl rfl) rfl ?_;exact NE.no (HN2.out) (by decide) HS.out.2
      ·have HN2:=hid (show nP q.v m.l done rest=(some ⟨ga,sin+ga - dep,{ sd with fin:=ga,miles:=sd.miles+gm }⟩,0) by rw [HN1.out,if_neg hdr])
       have hdr2:¬ q.t.t.drive<sin+ga - dep:=hdr;clear HN1 hdr;go_upto_region 33 with fail;clear y0 y1 y2 y3 y4 y5 y6 x15;have HS:=hid (rS (LR A c ⟨ga,sin+ga - dep,{ sd with fin:=ga,miles:=sd.miles+gm }⟩) HL4.out.r3 HL4.out.bel HG.out)
       go_wp2_with (first | (refine lr HL4.out.r4 Tryz.underlying150 ?_) | (refine sw (LR A c ⟨ga,sin+ga - dep,{ sd with fin:=ga,miles:=sd.miles+gm }⟩) HL4.out.r3 ?_))
       refine bodyPost_ret (rr rfl (lL HS.out.1) rfl rfl) rfl ?_;exact NE.yes (HN2.out) (TmO.at_ (OR.keep HL4.out.own (fun b hb2=>setRow_other _ _ _ _ (fun e=>(OR.not HL4.out.own HL4.out.r3 tL) (by rw [hb2,e]))))) HS.out.2
    ·have hzb:(gz != 0)=true:=by simpa using hz
     have HN0:=hid (show nP q.v m.l done rest=(none,12) by rw [HNX.out,if_pos hz]);clear HNX hz;have HS:=hid (rS (LR none 0 lZ) HLZ.out.r3 HLZ.out.bel HG.out);go_wp2_with (refine sw (LR none 0 lZ) HLZ.out.r3 ?_)
     refine bodyPost_ret (rr rfl (lL HS.out.1) rfl rfl) rfl ?_;exact NE.no (HN0.out) (by decide) HS.out.2
   ·have he1:((done:Int) == (q.stops.length:Int))=false:=ib (by omega)
    have hlt:done<q.stops.length:=by omega
    have hlt1:(done:Int)<(q.stops.length:Int):=by omega
    have hst:q.v.stops[done]? = some q.stops[done]:=List.getElem?_eq_getElem hlt;have hsok:=HQ.out.trip.stops _ (List.getElem_mem (show done<q.v.stops.length from hlt));have hsok:SK q.stops[done]:=hsok;obtain ⟨hq0,hq1,hq2,hq3,hq4⟩:=Sl hsok;obtain ⟨gt,ot,hA1,hgt,hx1⟩:=eP stopC_len (by decide) HQ.out.stops (by omega)
    have HX:=hid (fun (wz:World) (h:Below w.heap.size w wz) j u (hj:(Bw q.stops[done])[j]? = some u)=>(h.cell (p:=⟨gt,ot+done*4+j,none⟩) hgt).trans (hx1 done hlt j u hj));generalize q.stops[done]=s at *;clear hx1 hsok;obtain ⟨hga0,hga1,hgm0,hgm1⟩:=GP HQ.out.ok q.t.t.prof (pP q.v done) s.place hdb.1
    obtain ⟨ga,gm,gz,hg⟩:∃ ga gm gz,gP q.m.v q.t.t.prof (pP q.v done) s.place dep=(ga,gm,gz):=⟨_,_,_,rfl⟩
    have HNX:=hid (nextP_mid HDP.out HSN.out HSD.out hst hg);simp only [hg] at hga0 hga1 hgm0 hgm1
    have HGO:=hid (fun (wz:World) (h:Below wc.heap.size wc wz)=>(Ny q.m q.t.t.prof (pP q.v done) s.place dep wz (HQ.out.m.below (HL.out.bel.trans (h.mono HL.out.bel.size))) HQ.out.ok ⟨hdb.1,by omega⟩ (HT.out.below (HL.out.bel.trans (h.mono HL.out.bel.size)))).mono (fun e w' he=>(by unfold GoE at he;rw [hg] at he;exact he:e=.returned (.tuple #[.int .i64 ga,.int .i64 gm,.int .i64 gz])/\Below wz.heap.size wz w')))
    have x0:=HX.out wc HL.out.bel 0 _ rfl;rw [Nat.add_zero] at x0;have hmx:0<=max ga s.opn/\max ga s.opn<=200000:=by omega
    clear hst hg hend;generalize pP q.v done=frm at *;rw [hA1] at x24;have HA1:=hid hA1;clear hA1;go_upto_region 16 with fail;clear x9 x24 x0
    have HKP:=hid (show ∀ w' w2,(w'.heap[g1]? = some (.cells (TR q) 84)/\Below wc.heap.size wc w')->Below w'.heap.size w' w2->(w2.heap[g1]? = some (.cells (TR q) 84)/\Below wc.heap.size wc w2) from fun w' w2 ⟨h0,h1⟩ hb=>⟨rK h0 hb,bL h1 hb⟩);have hS0:(fun w'=>w'.heap[g1]? = some (.cells (TR q) 84)/\Below wc.heap.size wc w') wc.drew:=⟨HL.out.r1,(Below.refl _ wc).drew⟩
    refine wp_region_held_drew (S:=fun w'=>w'.heap[g1]? = some (.cells (TR q) 84)/\Below wc.heap.size wc w') (by kernel_rfl) hS0 (fun hHeld=>?_);refine td 0 ?_;refine td 1 ?_;(try simp only [Act.put,P1,pu,P3]);refine Tv 2 (v:=?_) ?_ ?_;rotate_left
    ·(intro w hSw;have q0:=CX hSw.1 0 (.slice q.m.pA q.m.places.length q.m.pc) rfl;have q1:=CX hSw.1 1 (.slice q.m.aA q.m.arcs.length q.m.ac) rfl;go_simp;(try with_reducible rfl))
    refine td 3 ?_;refine td 4 ?_;refine tq 5 (fun w hSw=>CX hSw.1 12 (.int .i64 q.t.t.prof) rfl) ?_;refine tkr 6 Tryz.underlying84 (fun w hSw=>hSw.1) ?_;refine td 7 ?_;refine td 9 ?_;refine td 10 ?_;(try simp only [Act.put,P1,pu,P3]);refine one 8 (fun K hK=>?_);go_simp;refine (HPL.out _ (And.right (by assumption))).mono ?_;rintro e wy ⟨rfl,hby⟩
    refine hK.out _ _ (HKP.out _ _ (by assumption) hby) (fun hHeld=>?_);clear hK K;(try simp only [Act.put,P1,pu,P3]);refine one 11 (fun K hK=>?_);go_simp;refine (HGO.out _ (And.right (by assumption))).mono ?_;rintro e wz ⟨rfl,hbz⟩;refine hK.out _ _ (HKP.out _ _ (by assumption) hbz) (fun hHeld=>?_);clear hK K;refine td 12 ?_;refine td 13 ?_;refine td 14 ?_;refine td 15 ?_;refine td 16 ?_
    refine td 17 ?_;refine td 18 ?_;(try simp only [Act.put,P1,pu,P3]);refine wpAnyH_done (by kernel_rfl) ?_ _;have HLZ:=hid (HL.out.below (show Below wc.heap.size wc wz from And.right (by assumption)));clear HL HPL HGO hS0 hHeld;by_cases hz:gz=0
    ·subst hz
     have HN0:=hid (show nP q.v m.l done rest=if max ga s.opn > s.cls then (none,14) else if sin+ga - dep > q.t.t.drive then (none,16) else (some ⟨max ga s.opn+s.serv,sin+ga - dep,{ sd with times:=sd.times ++ [⟨ga,max ga s.opn,0,false⟩],miles:=sd.miles+gm }⟩,0) by rw [HNX.out,if_neg (fun h=>h rfl)];rfl);clear HNX;obtain ⟨y0,y1,y2,y3,y4,y5,y6⟩:=HLZ.out.cells;have zf:=fz HLZ.out.r4 6
     have HL1:=hid (HLZ.out.put 6 (.int .i64 (sd.miles+gm)) ⟨0,0,{ sd with miles:=sd.miles+gm }⟩ rfl rfl);go_upto_region 20 with fail;clear y0 y1 y2 y3 y4 y5 y6 zf;generalize wz.setCell ⟨g4,6,none⟩ (.int .i64 (sd.miles+gm))=wa at *;obtain ⟨y0,y1,y2,y3,y4,y5,y6⟩:=HL1.out.cells;have zf:=fz HL1.out.r4 1
     have HL2:=hid (HL1.out.put 1 (.int .i64 (sin+ga - dep)) ⟨0,sin+ga - dep,{ sd with miles:=sd.miles+gm }⟩ rfl rfl);go_upto_region 26 with fail;clear y0 y1 y2 y3 y4 y5 y6 zf;generalize wa.setCell ⟨g4,1,none⟩ (.int .i64 (sin+ga - dep))=wb at *;have x24:=CX HL2.out.r1 24 (.slice q.A q.stops.length q.c) rfl;rw [HA1.out] at x24;have e0:=HX.out wb HL2.out.bel 0 _ rfl
     have e1:=HX.out wb HL2.out.bel 1 _ rfl;have e2:=HX.out wb HL2.out.bel 2 _ rfl;have e3:=HX.out wb HL2.out.bel 3 _ rfl;rw [Nat.add_zero] at e0;have HWB:=hid (Dh s ga wb);by_cases hcl:max ga s.opn > s.cls
     ·have HN1:=hid (show nP q.v m.l done rest=(none,14) by rw [HN0.out,if_pos hcl])
      rw [if_pos hcl,if_pos hcl] at HWB;clear HN0 hcl;go_wp2_with fail;refine HWB.out.mono ?_;rintro e wd ⟨rfl,hbd⟩;have HL3:=hid (HL2.out.below hbd);clear hbd x24 e0 e1 e2 e3;have HS:=hid (rS (LR none 0 lZ) HL3.out.r3 HL3.out.bel HG.out);go_wp2_with (refine sw (LR none 0 lZ) HL3.out.r3 ?_)
      refine bodyPost_ret (rr rfl (lL HS.out.1) rfl rfl) rfl ?_;exact NE.no (HN1.out) (by decide) HS.out.2
     ·have HN1:=hid (show nP q.v m.l done rest=if sin+ga - dep > q.t.t.drive then (none,16) else (some ⟨max ga s.opn+s.serv,sin+ga - dep,{ sd with times:=sd.times ++ [⟨ga,max ga s.opn,0,false⟩],miles:=sd.miles+gm }⟩,0) by rw [HN0.out,if_neg hcl])
      rw [if_neg hcl,if_neg hcl] at HWB;clear HN0;go_wp2_with fail;refine HWB.out.mono ?_;rintro e wd ⟨rfl,hbd⟩;have HL3:=hid (HL2.out.below hbd);clear hbd x24 e0 e1 e2 e3;have x24:=CX HL3.out.r1 24 (.slice q.A q.stops.length q.c) rfl;rw [HA1.out] at x24;have e3:=HX.out wd HL3.out.bel 3 _ rfl;obtain ⟨y0,y1,y2,y3,y4,y5,y6⟩:=HL3.out.cells;have zf:=fz HL3.out.r4 0
      have HL4:=hid (HL3.out.put 0 (.int .i64 (max ga s.opn+s.serv)) ⟨max ga s.opn+s.serv,sin+ga - dep,{ sd with miles:=sd.miles+gm }⟩ rfl rfl);go_upto_region 30 with fail;clear y0 y1 y2 y3 y4 y5 y6 zf;generalize wd.setCell ⟨g4,0,none⟩ (.int .i64 (max ga s.opn+s.serv))=we at *;clear x24 e3;obtain ⟨y0,y1,y2,y3,y4,y5,y6⟩:=HL4.out.cells;have x15:=CX HL4.out.r1 15 (.int .i64 q.t.t.drive) rfl
      obtain ⟨t9,ht9⟩:∃ t:TI,t=⟨ga,max ga s.opn,0,false⟩:=⟨_,rfl⟩
      have HT9:=hid ht9;clear ht9
      go_upto_region 31 with (at_builtin;refine wk el_tm rfl _ _ rfl w.heap.size A sd.times.length c (sd.times.flatMap TC) we #[.int .i64 ga,.int .i64 (max ga s.opn),.int .i64 0,.bool false] rfl HL4.out.own rfl rfl (by intro u hu;simp at hu;rcases hu with rfl | rfl | rfl | rfl <;> rfl) (by unfold maxLen;omega) (by omega) HL4.out.bel.size ?_;intro A' c' wf hown7 hb7 hkp7;have hrp7:=hkp7.row HL4.out.r4 (OR.far HL4.out.own HL4.out.r4 tL);have y24:=CX hrp7 4 (.slice A sd.times.length c) rfl;have z24:=fz hrp7 4)
      have ho9:TmO wf w.heap.size A' c' (sd.times ++ [⟨ga,max ga s.opn,0,false⟩]):=by
       show OR _ _ _ _ _ _ _ _
       rw [sL,<- Fs];exact hown7
      have hset:=HL4.out.app (l':=⟨max ga s.opn+s.serv,sin+ga - dep,{ sd with times:=sd.times ++ [⟨ga,max ga s.opn,0,false⟩],miles:=sd.miles+gm }⟩) hb7 hkp7 ho9 rfl;rw [sL] at hset;have HL5:=hid hset;clear hset ho9 hown7 hb7 hkp7 hrp7 y24 z24 y0 y1 y2 y3 y4 y5 y6 x15 HT9;generalize wf.setCell ⟨g4,4,none⟩ (.slice A' (sd.times.length+1) c')=wg at *
      have x15:=CX HL5.out.r1 15 (.int .i64 q.t.t.drive) rfl;have y1:wg.cell? ⟨g4,1,none⟩=some (.int .i64 (sin+ga - dep)):=HL5.out.cells.2.1;by_cases hdr:sin+ga - dep > q.t.t.drive
      ·have HN2:=hid (show nP q.v m.l done rest=(none,16) by rw [HN1.out,if_pos hdr])
       have hdr2:q.t.t.drive<sin+ga - dep:=hdr;clear HN1 hdr;go_upto_region 32 with fail;have HS:=hid (rS (LR none 0 lZ) HL5.out.r3 HL5.out.bel HG.out);go_wp2_with (refine sw (LR none 0 lZ) HL5.out.r3 ?_)
       refine bodyPost_ret (rr rfl (lL HS.out.1) rfl rfl) rfl ?_;exact NE.no (HN2.out) (by decide) HS.out.2
      ·have HN2:=hid (show nP q.v m.l done rest=(some ⟨max ga s.opn+s.serv,sin+ga - dep,{ sd with times:=sd.times ++ [⟨ga,max ga s.opn,0,false⟩],miles:=sd.miles+gm }⟩,0) by rw [HN1.out,if_neg hdr])
       have hdr2:¬ q.t.t.drive<sin+ga - dep:=hdr;clear HN1 hdr;go_upto_region 33 with fail;clear y1 x15;have HS:=hid (rS (LR A' c' ⟨max ga s.opn+s.serv,sin+ga - dep,{ sd with times:=sd.times ++ [⟨ga,max ga s.opn,0,false⟩],miles:=sd.miles+gm }⟩) HL5.out.r3 HL5.out.bel HG.out)
       go_wp2_with (first | (refine lr HL5.out.r4 Tryz.underlying150 ?_) | (refine sw (LR A' c' ⟨max ga s.opn+s.serv,sin+ga - dep,{ sd with times:=sd.times ++ [⟨ga,max ga s.opn,0,false⟩],miles:=sd.miles+gm }⟩) HL5.out.r3 ?_))
       refine bodyPost_ret (rr rfl (lL HS.out.1) rfl rfl) rfl ?_;exact NE.yes (HN2.out) (TmO.at_ (OR.keep HL5.out.own (fun b hb2=>setRow_other _ _ _ _ (fun e=>(OR.not HL5.out.own HL5.out.r3 tL) (by rw [hb2,e]))))) HS.out.2
    ·have hzb:(gz != 0)=true:=by simpa using hz
     have HN0:=hid (show nP q.v m.l done rest=(none,12) by rw [HNX.out,if_pos hz]);clear HNX hz;have HS:=hid (rS (LR none 0 lZ) HLZ.out.r3 HLZ.out.bel HG.out);go_wp2_with (refine sw (LR none 0 lZ) HLZ.out.r3 ?_)
     refine bodyPost_ret (rr rfl (lL HS.out.1) rfl rfl) rfl ?_;exact NE.no (HN0.out) (by decide) HS.out.2
theorem RF (p:Tr) (e:Int) (cs:List Bool):∀ (bs:List Bool) (l:LV) (k:Nat),rF p l k bs=(none,e)->rF p l k (bs ++ cs)=(none,e)
 |[],l,k,h=>by rw [rF] at h;cases h
 |b :: bs,l,k,h=>by
  rw [rF] at h;rw [List.cons_append,rF];rcases h2:nP p l k b with ⟨_ | l',z⟩
  ·rw [h2] at h;exact h
  ·rw [h2] at h;exact RF p e cs bs l' (k+1) h
theorem runP_none {p:Tr} {e:Int} {bs:List Bool} {k:Nat} (h:rP p (bs.take k)=(none,e)):rP p bs=(none,e):=by
 have:=RF p e (bs.drop k) (bs.take k) (L0 p) 0 h;rw [List.take_append_drop] at this;exact this
theorem runP_step {p:Tr} {bs:List Bool} {k:Nat} (hk:k<bs.length) {l:LV} (h:rP p (bs.take k)=(some l,0)):rP p (bs.take (k+1))=match nP p l k bs[k] with
  |(some l2,_)=>(some l2,0)
  |(none,e)=>(none,e):=by
 rw [List.take_succ_eq_append_getElem hk];unfold rP at *;rw [Rc,h];simp only;rw [List.length_take,Nat.zero_add,Nat.min_eq_left (by omega)];rfl
abbrev SZ:SV:=⟨false,0,[],0,0⟩
def sQ (A:Option Addr) (c:Nat) (s:SV):Array Value:=#[.bool s.rest,.int .i64 s.dep,.slice A s.times.length c,.int .i64 s.fin,.int .i64 s.miles]
def RunE (q:Ab) (bs:List Bool) (w:World) (e:Ending) (w':World):Prop :=
 (match rP q.v bs with
 |(some l,_)=>∃ A c,e=.returned (.tuple #[Az A c l.sh,.int .i64 0])/\Tt w' A c l.sh.times
 |(none,k)=>k≠0/\e=.returned (.tuple #[Az none 0 SZ,.int .i64 k]))/\Below w.heap.size w w'
theorem RunE.no {q:Ab} {bs:List Bool} {w w':World} {k:Int} (h:rP q.v bs=(none,k)) (hk:k≠0) (hb:Below w.heap.size w w'):RunE q bs w (.returned (.tuple #[Az none 0 SZ,.int .i64 k])) w':=by
 unfold RunE;rw [h];exact ⟨⟨hk,rfl⟩,hb⟩
theorem RunE.yes {q:Ab} {bs:List Bool} {l:LV} {w w':World} {A:Option Addr} {c:Nat} {z:Int} (h:rP q.v bs=(some l,z)) (ht:Tt w' A c l.sh.times) (hb:Below w.heap.size w w'):RunE q bs w (.returned (.tuple #[Az A c l.sh,.int .i64 0])) w':=by
 unfold RunE;rw [h];exact ⟨⟨A,c,rfl,ht⟩,hb⟩
theorem drun_any (q:Ab) (bs:List Bool) (A:Option Addr) (c:Nat) (w:World) (hq:TT w q) (hc:Cs w A (bP bs)) (hn:bs.length<=c/\c<=maxLen) (hl:bs.length<=q.stops.length+1) (h8:q.stops.length<=8) (hT:Tb w) :
  Calls Tryz.prog 27 #[tr q,.slice A bs.length c] w (RunE q bs w):=by
 obtain ⟨k1,k2,k3⟩:=aL w (.cells (TR q) 84) (.cells (sQ none 0 SZ) 39);have HB:=hid k3;have HK1:=hid k1;have HK2:=hid k2;have HQ:=hid hq;have HC:=hid hc;have HT:=hid hT;have HTR:=hid hq.trip;unfold maxLen at hn;clear hq hc hT k1 k2 k3;go_enter Tryz.func27,Tryz.ntmps27;(try simp only [Bm]);go_upto_region 1 with fail
 rw [show (w.alloc (.cells #[.slice q.m.pA q.m.places.length q.m.pc,.slice q.m.aA q.m.arcs.length q.m.ac,.slice q.m.tA q.m.types.length q.m.tc,.slice q.m.oA q.m.ords.length q.m.oc,.slice q.m.xA q.m.apart.length q.m.xc,.slice q.m.bA q.m.before.length q.m.bc,.string (B q.t.t.name),.int .i64 q.t.t.count,.int .i64 q.t.t.frm,.int .i64 q.t.t.tgt,.slice q.t.A q.t.t.cap.length q.t.ca,.int .i64 q.t.t.skills,.int .i64 q.t.t.prof,.int .i64 q.t.t.opn,.int .i64 q.t.t.cls,.int .i64 q.t.t.drive,.int .i64 q.t.t.rest,.int .i64 q.t.t.fixed,.int .i64 q.t.t.mile,.int .i64 q.t.t.tick,.int .i64 q.r.r.kind,.int .i64 q.r.r.start,.slice q.r.A q.r.r.rests.length q.r.ca,.slice q.r.C q.r.r.vis.length q.r.cc,.slice q.A q.stops.length q.c] 84)).alloc (.cells #[.bool false,.int .i64 0,.slice none 0 0,.int .i64 0,.int .i64 0] 39)=(w.alloc (.cells (TR q) 84)).alloc (.cells (sQ none 0 SZ) 39) from rfl]
 generalize (w.alloc (.cells (TR q) 84)).alloc (.cells (sQ none 0 SZ) 39)=w2 at *;obtain ⟨g1,hg1⟩:∃ g1,g1=w.heap.size:=⟨_,rfl⟩
 obtain ⟨g2,hg2⟩:∃ g2,g2=w.heap.size+1:=⟨_,rfl⟩
 rw [<- hg2] at HK2;rw [<- hg2,<- hg1];rw [<- hg1] at HK1;have HG:=hid (show w.heap.size<=g2 by omega);clear hg1 hg2;have HBG:=hid (dbegin_any q w2);go_wp2_with (refine lr HK1.out Tryz.underlying84 ?_)
 refine HBG.out.mono ?_;rintro e w3 ⟨rfl,hb3⟩;obtain ⟨n4,p4⟩:=Na w3 (.cells (LR none 0 (L0 q.v)) 150);have HB4:=hid (bL (bL HB.out hb3) n4);have HR1:=hid (rK (rK HK1.out hb3) n4);have HR2:=hid (rK (rK HK2.out hb3) n4)
 have HNE:=hid (show g1≠w3.heap.size/\g2≠w3.heap.size/\w.heap.size<=w3.heap.size from ⟨Nat.ne_of_lt (lh (rK HK1.out hb3)),Nat.ne_of_lt (lh (rK HK2.out hb3)),(bL HB.out hb3).size⟩);clear hb3 n4 HB HK1 HK2 HBG;go_upto_region 3 with fail
 rw [show w3.alloc (.cells #[.int .i64 (L0 q.v).ready,.int .i64 (L0 q.v).since,.bool (L0 q.v).sh.rest,.int .i64 (L0 q.v).sh.dep,.slice none (L0 q.v).sh.times.length 0,.int .i64 (L0 q.v).sh.fin,.int .i64 (L0 q.v).sh.miles] 150)=w3.alloc (.cells (LR none 0 (L0 q.v)) 150) from rfl];generalize w3.alloc (.cells (LR none 0 (L0 q.v)) 150)=w4 at *
 obtain ⟨g4,hg4⟩:∃ g4,g4=w3.heap.size:=⟨_,rfl⟩
 rw [<- hg4] at p4 HNE;rw [<- hg4];have HR4:=hid p4;clear p4 hg4
 go_loopw [5,7,8,10,15] (fun _ _ _ _ j wr=>∃ (k:Nat) (A2:Option Addr) (c2:Nat) (l:LV),k<=bs.length/\j=.int .i64 k/\rP q.v (bs.take k)=(some l,0)/\Tt wr A2 c2 l.sh.times/\wr.heap[g4]? = some (.cells (LR A2 c2 l) 150)/\wr.heap[g1]? = some (.cells (TR q) 84)/\wr.heap[g2]? = some (.cells (sQ none 0 SZ) 39)/\Below w.heap.size w wr) (fun _ _ _ _ j _=>bs.length - (intOf j).toNat)
 case atStart=>exact ⟨0,none,0,L0 q.v,Nat.zero_le _,rfl,rfl,Tt.nil _,HR4.out,HR1.out,HR2.out,HB4.out⟩
 case round =>
  clear HR4 HR1 HR2 HB4;obtain ⟨k,A2,c2,l,hk,rfl,hrun,htm,hr4,hr1,hr2,hbel⟩:=hrel;have HRN:=hid hrun;have HTM:=hid htm;have HR4:=hid hr4;have HR1:=hid hr1;have HR2:=hid hr2;have HB:=hid hbel;clear hrun htm hr4 hr1 hr2 hbel;by_cases hlt:k<bs.length
  ·have hlt1:(k:Int)<(bs.length:Int):=by omega
   obtain ⟨gb,ob,hA1,hgb,hx1⟩:=HC.out (by rw [BP];omega);subst hA1;have x0:=(HB.out.cell (p:=⟨gb,ob+k,none⟩) hgb).trans (hx1 k _ (bT bs k hlt));have HST:=hid (runP_step hlt HRN.out);have HLO:=hid (run_ok HTR.out k (bs.take k) l 0 (by rw [List.length_take];omega) (by show k<=q.stops.length+1;omega) HRN.out)
   have HNX:=hid (dnext_any q ⟨A2,c2,l⟩ k bs[k] (bs.take k) wr (HQ.out.below HB.out) HTM.out HLO.out (by omega) h8 (HT.out.below HB.out));unfold NE at HNX;generalize bs[k]=b at *;clear hx1;go_wp2_with (first | (refine lr HR1.out Tryz.underlying84 ?_) | (refine lr HR4.out Tryz.underlying150 ?_))
   refine HNX.out.mono ?_;rintro e w5 ⟨he,hb5⟩;have HB5:=hid (bL HB.out hb5);have HR45:=hid (rK HR4.out hb5);have HR15:=hid (rK HR1.out hb5);have HR25:=hid (rK HR2.out hb5);clear hb5 x0 HNX HR4 HR1 HR2 HB;rcases hnx:nP q.v l k b with ⟨_ | l',z⟩
   ·rw [hnx] at he HST
    obtain ⟨hz,rfl⟩:=he;have hzb:(z != 0)=true:=by simpa using hz
    have HNO:=hid (runP_none HST.out);have HZ:=hid hz;obtain ⟨n6,p6⟩:=Na w5 (.cells (LR none 0 lZ) 150);have HB6:=hid (bL HB5.out n6);have HR26:=hid (rK HR25.out n6);clear n6 p6 hnx hz;go_upto_region 6 with fail
    rw [show w5.alloc (.cells #[.int .i64 lZ.ready,.int .i64 lZ.since,.bool lZ.sh.rest,.int .i64 lZ.sh.dep,.slice none lZ.sh.times.length 0,.int .i64 lZ.sh.fin,.int .i64 lZ.sh.miles] 150)=w5.alloc (.cells (LR none 0 lZ) 150) from rfl];generalize w5.alloc (.cells (LR none 0 lZ) 150)=w6 at *;have HS:=hid (rS (sQ none 0 SZ) HR26.out HB6.out HG.out)
    go_wp2_with (refine sw (sQ none 0 SZ) HR26.out ?_)
    refine bodyPost_ret (rr rfl (Lt HS.out.1) rfl rfl) rfl ?_;exact RunE.no HNO.out HZ.out HS.out.2
   ·rw [hnx] at he HST
    obtain ⟨A3,c3,rfl,htm3⟩:=he;obtain ⟨n6,p6⟩:=Na w5 (.cells (LR A3 c3 l') 150);have HB6:=hid (bL HB5.out n6);have HR16:=hid (rK HR15.out n6);have HR26:=hid (rK HR25.out n6);have HR46:=hid (rK HR45.out n6);have HTM6:=hid (htm3.below n6);clear n6 hnx htm3 HR15 HR25 HR45 HB5;go_upto_region 6 with fail
    rw [show w5.alloc (.cells #[.int .i64 l'.ready,.int .i64 l'.since,.bool l'.sh.rest,.int .i64 l'.sh.dep,.slice A3 l'.sh.times.length c3,.int .i64 l'.sh.fin,.int .i64 l'.sh.miles] 150)=w5.alloc (.cells (LR A3 c3 l') 150) from rfl];generalize w5.alloc (.cells (LR A3 c3 l') 150)=w6 at *;obtain ⟨g6,hg6⟩:∃ g6,g6=w5.heap.size:=⟨_,rfl⟩
    rw [<- hg6] at p6;rw [<- hg6];have HP6:=hid p6;clear p6 hg6;have HS:=hid (rS (LR A3 c3 l') HR46.out HB6.out HNE.out.2.2);go_wp2_with (first | (refine lr HP6.out Tryz.underlying150 ?_) | (refine sw (LR A3 c3 l') HR46.out ?_))
    go_roundw
    case rel =>
     refine ⟨k+1,A3,c3,l',by omega,by go_num,HST.out,?_,HS.out.1,(setRow_other _ _ _ _ HNE.out.1).trans HR16.out,(setRow_other _ _ _ _ HNE.out.2.1).trans HR26.out,HS.out.2⟩;exact HTM6.out.keep HR46.out (by decide) (by rw [setRow_size];exact Nat.le_refl _) (fun k _ hk=>setRow_other _ _ _ _ hk)
    case measure=>simp [intOf];omega
  ·have hlt1:¬ (k:Int)<(bs.length:Int):=by omega
   have HRR:=hid (show rP q.v bs=(some l,0) by have h:=HRN.out;rw [show k=bs.length by omega,List.take_length] at h;exact h);have y2:=CX HR4.out 2 (.bool l.sh.rest) rfl;have y3:=CX HR4.out 3 (.int .i64 l.sh.dep) rfl;have y4:=CX HR4.out 4 (.slice A2 l.sh.times.length c2) rfl;have y5:=CX HR4.out 5 (.int .i64 l.sh.fin) rfl;have y6:=CX HR4.out 6 (.int .i64 l.sh.miles) rfl
   have HS:=hid (rS (sQ A2 c2 l.sh) HR2.out HB.out HG.out);go_wp2_with (refine sw (sQ A2 c2 l.sh) HR2.out ?_)
   refine bodyPost_ret (rr rfl (Lt HS.out.1) rfl rfl) rfl ?_;refine RunE.yes HRR.out ?_ HS.out.2;exact HTM.out.keep HR2.out (by decide) (by rw [setRow_size];exact Nat.le_refl _) (fun k _ hk=>setRow_other _ _ _ _ hk)
end Go.Proofs.YtjcekdiocliddaaGreatDoor

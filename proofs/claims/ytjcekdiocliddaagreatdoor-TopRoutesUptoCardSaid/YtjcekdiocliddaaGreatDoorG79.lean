/- drive: beats, the closure of grow, slices.IndexFunc and ContainsFunc over labels. -/
import Derived.Test.YtjcekdiocliddaaGreatDoorG78
import Derived.Test.YtjcekdiocliddaaGreatDoorG66
import Derived.Test.YtjcekdiocliddaaGreatDoorG73
namespace Go.Proofs.YtjcekdiocliddaaGreatDoor
open Lib (hid)
open Go.RowKit Num Txt Pf Tk
set_option maxHeartbeats 32000000
set_option maxRecDepth 100000
set_option linter.unusedVariables false
attribute [local go_sem] BS Bg Bt Bm Be Ba
def bB (l m:LV):Bool:=l.ready == m.ready && decide (l.since<=m.since)
theorem bi {l m:LV}:bB l m=true↔l.ready=m.ready/\l.since<=m.since:=by unfold bB;rw [Bool.and_eq_true,beq_iff_eq,decide_eq_true_eq]
theorem beats_any (A C:Option Addr) (ca cc:Nat) (l m:LV) (w:World):Calls Tryz.prog 125 #[Db A ca l,Db C cc m] w fun e w'=>e=.returned (.bool (bB l m))/\Below w.heap.size w w':=by
 obtain ⟨k1,k2,k3⟩:=aL w (.cells (LR A ca l) 150) (.cells (LR C cc m) 150);have HB:=hid k3;have a0:=CX k1 0 (.int .i64 l.ready) rfl;have a1:=CX k1 1 (.int .i64 l.since) rfl;have b0:=CX k2 0 (.int .i64 m.ready) rfl;have b1:=CX k2 1 (.int .i64 m.since) rfl;clear k1 k2 k3;by_cases h:l.ready=m.ready
 ·have hb:=iB h
  have HV:=hid (show bB l m=decide (l.since<=m.since) by unfold bB;rw [hb];rfl);clear h;go_enter Tryz.func125,Tryz.ntmps125;go_upto_region 1 with fail
  rw [show (w.alloc (.cells #[.int .i64 l.ready,.int .i64 l.since,.bool l.sh.rest,.int .i64 l.sh.dep,.slice A l.sh.times.length ca,.int .i64 l.sh.fin,.int .i64 l.sh.miles] 150)).alloc (.cells #[.int .i64 m.ready,.int .i64 m.since,.bool m.sh.rest,.int .i64 m.sh.dep,.slice C m.sh.times.length cc,.int .i64 m.sh.fin,.int .i64 m.sh.miles] 150)=(w.alloc (.cells (LR A ca l) 150)).alloc (.cells (LR C cc m) 150) from rfl]
  generalize (w.alloc (.cells (LR A ca l) 150)).alloc (.cells (LR C cc m) 150)=w2 at *;go_wp2_with fail;go_ret;exact ⟨rb HV.out.symm,HB.out⟩
 ·have hb:=ib h
  have HV:=hid (show bB l m=false by unfold bB;rw [hb];rfl);clear h;go_enter Tryz.func125,Tryz.ntmps125;go_upto_region 1 with fail
  rw [show (w.alloc (.cells #[.int .i64 l.ready,.int .i64 l.since,.bool l.sh.rest,.int .i64 l.sh.dep,.slice A l.sh.times.length ca,.int .i64 l.sh.fin,.int .i64 l.sh.miles] 150)).alloc (.cells #[.int .i64 m.ready,.int .i64 m.since,.bool m.sh.rest,.int .i64 m.sh.dep,.slice C m.sh.times.length cc,.int .i64 m.sh.fin,.int .i64 m.sh.miles] 150)=(w.alloc (.cells (LR A ca l) 150)).alloc (.cells (LR C cc m) 150) from rfl]
  generalize (w.alloc (.cells (LR A ca l) 150)).alloc (.cells (LR C cc m) 150)=w2 at *;go_wp2_with fail;go_ret;exact ⟨rb HV.out.symm,HB.out⟩
theorem grow1_any (A C:Option Addr) (ca cc:Nat) (l m:LV) (gt:Nat) (w:World) (hg:w.heap[gt]? = some (.cells (LR C cc m) 150)):Calls Tryz.prog 124 #[Db A ca l,.pointer (some ⟨gt,0,none⟩)] w fun e w'=>e=.returned (.bool (bB l m))/\Below w.heap.size w w':=by
 obtain ⟨n4,p4⟩:=Na w (.cells (LR A ca l) 150);have HB:=hid n4;have HP:=hid p4;have HGT:=hid (rK hg n4);clear n4 p4 hg;go_enter Tryz.func124,Tryz.ntmps124;go_upto_region 1 with fail
 rw [show (w.alloc (.cells #[.int .i64 l.ready,.int .i64 l.since,.bool l.sh.rest,.int .i64 l.sh.dep,.slice A l.sh.times.length ca,.int .i64 l.sh.fin,.int .i64 l.sh.miles] 150))=(w.alloc (.cells (LR A ca l) 150)) from rfl];generalize (w.alloc (.cells (LR A ca l) 150))=w2 at *;go_wp2_with (first | (refine lr HGT.out Tryz.underlying150 ?_) | (refine lr HP.out Tryz.underlying150 ?_))
 refine (beats_any A C ca cc l m w2).mono ?_;rintro e w3 ⟨rfl,hb3⟩;have HB3:=hid (bL HB.out hb3);clear hb3;go_wp2_with fail;go_ret;exact ⟨rfl,HB3.out⟩
theorem labidx_any (l:List LM) (A:Option Addr) (c:Nat) (gt:Nat) (C:Option Addr) (cc:Nat) (q:LV) (w:World) (hc:Cs w A (l.flatMap LM.cells)) (hn:l.length<=c/\c<=maxLen) (hg:w.heap[gt]? = some (.cells (LR C cc q) 150)) :
  Calls Tryz.prog 163 #[.slice A l.length c,.func (Fn.func 124) #[] #[.pointer (some ⟨gt,0,none⟩)]] w fun e w'=>e=.returned (.int .i64 (IZ (fun m:LM=>bB m.l q) l))/\Below w.heap.size w w':=by
 unfold maxLen at hn;have HC:=hid hc;have HF:=hid (show ∀ m ∈ l,∀ w',Below w.heap.size w w'->Calls Tryz.prog 124 #[Db m.A m.c m.l,.pointer (some ⟨gt,0,none⟩)] w' (fun e w2=>e=.returned (.bool (bB m.l q))/\Below w'.heap.size w' w2) from fun m _ w' hb=>grow1_any m.A C m.c cc m.l q gt w' (rK hg hb));clear hc hg;go_enter Tryz.func163,Tryz.ntmps163;go_wp2_with fail
 go_loopw [4,5,8] (fun _ _ j wr=>∃ k:Nat,k<=l.length/\j=.int .i64 k/\(∀ i (h:i<l.length),i<k->bB l[i].l q=false)/\Below w.heap.size w wr) (fun _ _ j _=>l.length - (intOf j).toNat)
 case atStart=>exact ⟨0,Nat.zero_le _,rfl,fun i _ h=>absurd h (Nat.not_lt_zero _),Below.refl _ _⟩
 case round =>
  obtain ⟨k,hk,rfl,hno,hbel⟩:=hrel;have HB:=hid hbel;have HNO:=hid hno;clear hbel hno;by_cases hlt:k<l.length
  ·have hlt1:(k:Int)<(l.length:Int):=by omega
   obtain ⟨g1,o1,hA1,hg1,hx1⟩:=eP LM.cells_len (by decide) HC.out (by omega);subst hA1;have HX:=hid (fun j u h=>(HB.out.cell (p:=⟨g1,o1+k*7+j,none⟩) hg1).trans (hx1 k hlt j u h));have HFK:=hid (HF.out _ (List.getElem_mem hlt) wr HB.out);have HYES:=hid (fun h=>It (p:=(fun m:LM=>bB m.l q)) hlt HNO.out h)
   have HNEXT:=hid (show bB l[k].l q=false->∀ i (h:i<l.length),i<k+1->bB l[i].l q=false from fun h i hi hik=>by
    by_cases e:i=k
    ·subst e;exact h
    ·exact HNO.out i hi (by omega))
   obtain ⟨m,hm⟩:∃ m,m=l[k]:=⟨_,rfl⟩
   rw [<- hm] at HX HFK HYES HNEXT;clear hx1 hm;go_wp2_with (refine wL rfl 150 _ rfl g1 (o1+k*7) rfl (LM.cells m) _ HX.out Tryz.underlying150 rfl (by kernel_rfl) ?_)
   refine HFK.out.mono ?_;rintro e w3 ⟨rfl,hb3⟩;have HB3:=hid (bL HB.out hb3);clear hb3 HFK
   cases hp:bB m.l q with
   |true =>
    have HR:=hid (HYES.out hp);clear hp HYES HNEXT;go_wp2_with fail;go_ret;exact ⟨ri HR.out.symm,HB3.out⟩
   |false =>
    have HR:=hid (HNEXT.out hp);clear hp HYES HNEXT;go_wp2_with fail;go_roundw
    case rel=>exact ⟨k+1,by omega,by go_num,HR.out,HB3.out⟩
    case measure=>simp [intOf];omega
  ·have hlt1:¬ (k:Int)<(l.length:Int):=by omega
   have HR:=hid (io (p:=(fun m:LM=>bB m.l q)) (l:=l) fun j hj=>HNO.out j hj (by omega));go_wp2_with fail;go_ret;exact ⟨ri HR.out.symm,HB.out⟩
theorem labhas_any (l:List LM) (A:Option Addr) (c:Nat) (gt:Nat) (C:Option Addr) (cc:Nat) (q:LV) (w:World) (hc:Cs w A (l.flatMap LM.cells)) (hn:l.length<=c/\c<=maxLen) (hg:w.heap[gt]? = some (.cells (LR C cc q) 150)) :
  Calls Tryz.prog 123 #[.slice A l.length c,.func (Fn.func 124) #[] #[.pointer (some ⟨gt,0,none⟩)]] w fun e w'=>e=.returned (.bool (l.any (fun m:LM=>bB m.l q)))/\Below w.heap.size w w':=by
 have H:=hid (labidx_any l A c gt C cc q w hc hn hg);have HZ:=hid (Iy (fun m:LM=>bB m.l q) l);have hzb:=iZ (fun m:LM=>bB m.l q) l;clear hc hn hg;go_enter Tryz.func123,Tryz.ntmps123;go_wp2_with fail;refine H.out.mono ?_;rintro e w1 ⟨rfl,hb⟩;have HB:=hid hb;clear hb H;generalize IZ (fun m:LM=>bB m.l q) l=z at *;go_wp2_with fail;go_ret
 exact ⟨rb HZ.out,HB.out⟩
theorem Tt.keptA {w w':World} {X A:Option Addr} {c c' n Bs sz:Nat} {e:TypeId} {ts:List TI} {xs:List Value} (h:Tt w X c ts) (hk:KA A w w') (hA:OR w Bs e sz A n c' xs) (he:e≠158):Tt w' X c ts:=by
 rcases hA.form with hf | ⟨g,hf⟩
 ·subst hf
  refine ⟨fun h0=>?_,h.2.1,fun a ha=>?_,h.2.2.2⟩
  ·obtain ⟨b,off,e,hb,hx⟩:=h.1 h0
   refine ⟨b,off,e,Nat.lt_of_lt_of_le hb hk.1,fun j v hv=>?_⟩;rw [<- hx j v hv];exact World.cell?_of_block (w:=w) (w':=w') (a:=⟨b,off+j,none⟩) (show w'.heap[b]? = w.heap[b]? from hk.2 b hb (fun _ _ e=>by cases e))
  ·obtain ⟨cur,hc⟩:=h.2.2.1 a ha
   exact ⟨cur,(hk.2 _ (lh hc) (fun _ _ e=>by cases e)).trans hc⟩
 ·subst hf
  obtain ⟨_,_,cur,hcur⟩:=hA.typ;exact h.keep hcur he hk.1 (fun k hk2 hne=>hk.2 k hk2 (fun off sp e=>hne (by injection e with e;injection e with e _ _;exact e.symm)))
theorem nextP_zero {p:Tr} {l l':LV} {done:Nat} {b:Bool} {z:Int} (h:nP p l done b=(some l',z)):z=0:=by
 obtain ⟨dep,hd⟩:∃ d,d=l.ready+(if b then p.t.rest else 0):=⟨_,rfl⟩
 obtain ⟨sin,hs⟩:∃ d,d=if b then 0 else l.since:=⟨_,rfl⟩
 obtain ⟨sd,hsd⟩:∃ d,d=sD l.sh done b dep:=⟨_,rfl⟩
 cases hst:p.stops[done]? with
 |none =>
  obtain ⟨ga,gm,gz,hg⟩:∃ ga gm gz,gP p.x p.t.prof (pP p done) p.t.tgt dep=(ga,gm,gz):=⟨_,_,_,rfl⟩
  rw [nextP_end hd hs hsd hst hg] at h;split at h
  ·cases h
  ·split at h
   ·cases h
   ·split at h
    ·cases h
    ·injection h with _ h;exact h.symm
 |some s =>
  obtain ⟨ga,gm,gz,hg⟩:∃ ga gm gz,gP p.x p.t.prof (pP p done) s.place dep=(ga,gm,gz):=⟨_,_,_,rfl⟩
  rw [nextP_mid hd hs hsd hst hg] at h;split at h
  ·cases h
  ·split at h
   ·cases h
   ·split at h
    ·cases h
    ·injection h with _ h;exact h.symm
def GL (q:Ab) (k:Nat) (w:World) (L:List LM):Prop:=∀ m ∈ L,Cj w m/\Grown q.v k m.l
theorem GL.below {q:Ab} {k:Nat} {w w':World} {L:List LM} (h:GL q k w L) (hb:Below w.heap.size w w'):GL q k w' L:=fun m hm=>⟨(h m hm).1.below hb,(h m hm).2⟩
def Apt (A:Option Addr) (g:Nat):Prop:=∀ off sp,A≠some ⟨g,off,sp⟩
def CO (q:Ab) (k:Nat) (l:LV) (L':List LM) (bs:List Bool):Prop:=∀ b ∈ bs,∀ l' z,nP q.v l k b=(some l',z)->∃ m ∈ L',bB m.l l'=true
def CovL (q:Ab) (k:Nat) (Ls L':List LM) (bs:List Bool):Prop:=∀ m ∈ Ls,CO q k m.l L' bs
theorem CO.mono {q:Ab} {k:Nat} {l:LV} {L':List LM} {bs:List Bool} (h:CO q k l L' bs) (x:LM):CO q k l (L' ++ [x]) bs:=fun b hb l' z hn=>by
 obtain ⟨m,hm,h1⟩:=h b hb l' z hn;exact ⟨m,by simp [hm],h1⟩
theorem CovL.mono {q:Ab} {k:Nat} {Ls L':List LM} {bs:List Bool} (h:CovL q k Ls L' bs) (x:LM):CovL q k Ls (L' ++ [x]) bs:=fun m hm=>(h m hm).mono x
theorem CO.snoc {q:Ab} {k:Nat} {l:LV} {L':List LM} {bs:List Bool} {b:Bool} (h:CO q k l L' bs) (h1:∀ l' z,nP q.v l k b=(some l',z)->∃ m ∈ L',bB m.l l'=true):CO q k l L' (bs ++ [b]):=fun c hc l' z hn=>by
 rcases List.mem_append.1 hc with hc | hc
 ·exact h c hc l' z hn
 ·rw [List.mem_singleton.1 hc] at hn
  exact h1 l' z hn
theorem CovL.snoc {q:Ab} {k:Nat} {Ls L':List LM} {bs:List Bool} {m:LM} (h:CovL q k Ls L' bs) (h1:CO q k m.l L' bs):CovL q k (Ls ++ [m]) L' bs:=fun c hc=>by
 rcases List.mem_append.1 hc with hc | hc
 ·exact h c hc
 ·rw [List.mem_singleton.1 hc];exact h1
theorem takeT {α:Type} {l:List α} {k:Nat} (h:k<l.length):l.take (k+1)=l.take k ++ [l[k]]:=by rw [List.take_add_one,List.getElem?_eq_getElem h];rfl
theorem beats_refl (l:LV):bB l l=true:=bi.2 ⟨rfl,Int.le_refl _⟩
def Covers (q:Ab) (k:Nat) (L L':List LM):Prop:=∀ m ∈ L,∀ b,(k<q.r.r.rests.length->q.r.r.rests[k]? = some b)->∀ l' z,nP q.v m.l k b=(some l',z)->∃ m' ∈ L',bB m'.l l'=true
def GrowE (q:Ab) (k:Nat) (L:List LM) (w:World) (e:Ending) (w':World):Prop:=∃ (A':Option Addr) (c':Nat) (L':List LM),e=.returned (.slice A' L'.length c')/\OR w' w.heap.size 150 7 A' L'.length c' (L'.flatMap LM.cells)/\GL q (k+1) w' L'/\L'.length<=2*L.length/\Covers q k L L'/\Below w.heap.size w w'
def ChsL (r:RV) (k:Nat) (xs:List Bool):Prop:=xs.length<=2/\(∀ b ∈ xs,k<r.rests.length->r.rests[k]? = some b)/\∀ b,(k<r.rests.length->r.rests[k]? = some b)->b ∈ xs
theorem dgrow_any (q:Ab) (L:List LM) (A:Option Addr) (c k:Nat) (w:World) (hq:TT w q) (hc:Cs w A (L.flatMap LM.cells)) (hn:L.length<=c/\c<=maxLen) (hL:GL q k w L) (hk:k<=q.stops.length) (hll:L.length<=4096) (h8:q.stops.length<=8) (hT:Tb w) :
  Calls Tryz.prog 69 #[tr q,.slice A L.length c,.int .i64 k] w (GrowE q k L w):=by
 obtain ⟨k1,k2,k3⟩:=aL w (.cells (TR q) 84) (.cells #[.bool false,.bool true] 4);have HB:=hid k3;have HK1:=hid k1;have HK2:=hid k2;have HQ:=hid hq;have HC:=hid hc;have HL:=hid hL;have HT:=hid hT;have HTR:=hid hq.trip;have hrl:=hq.r.rl;unfold maxLen at hn hrl;clear hq hc hT hL k1 k2 k3;go_enter Tryz.func69,Tryz.ntmps69;(try simp only [Bm])
 go_upto_region 2 with fail
 rw [show (w.alloc (.cells #[.slice q.m.pA q.m.places.length q.m.pc,.slice q.m.aA q.m.arcs.length q.m.ac,.slice q.m.tA q.m.types.length q.m.tc,.slice q.m.oA q.m.ords.length q.m.oc,.slice q.m.xA q.m.apart.length q.m.xc,.slice q.m.bA q.m.before.length q.m.bc,.string (B q.t.t.name),.int .i64 q.t.t.count,.int .i64 q.t.t.frm,.int .i64 q.t.t.tgt,.slice q.t.A q.t.t.cap.length q.t.ca,.int .i64 q.t.t.skills,.int .i64 q.t.t.prof,.int .i64 q.t.t.opn,.int .i64 q.t.t.cls,.int .i64 q.t.t.drive,.int .i64 q.t.t.rest,.int .i64 q.t.t.fixed,.int .i64 q.t.t.mile,.int .i64 q.t.t.tick,.int .i64 q.r.r.kind,.int .i64 q.r.r.start,.slice q.r.A q.r.r.rests.length q.r.ca,.slice q.r.C q.r.r.vis.length q.r.cc,.slice q.A q.stops.length q.c] 84)).alloc (.cells #[.bool false,.bool true] 4)=(w.alloc (.cells (TR q) 84)).alloc (.cells #[.bool false,.bool true] 4) from rfl]
 generalize (w.alloc (.cells (TR q) 84)).alloc (.cells #[.bool false,.bool true] 4)=w2 at *;obtain ⟨g1,hg1⟩:∃ g1,g1=w.heap.size:=⟨_,rfl⟩
 obtain ⟨g2,hg2⟩:∃ g2,g2=w.heap.size+1:=⟨_,rfl⟩
 rw [<- hg2] at HK2;rw [<- hg2,<- hg1];rw [<- hg1] at HK1;clear hg1 hg2;have x22:=CX HK1.out 22 (.slice q.r.A q.r.r.rests.length q.r.ca) rfl;go_upto_if 21 with (fail)
 go_cut [7] (fun s wx=>∃ (X:Option Addr) (xs:List Bool) (cx:Nat),s=.slice X xs.length cx/\Cs w2 X (bP xs)/\(xs.length<=cx/\cx<=maxLen)/\ChsL q.r.r k xs/\wx=w2)
 case first =>
  as_aux_lemma =>
   by_cases hkr:k<q.r.r.rests.length
   ·have hkr1:(k:Int)<(q.r.r.rests.length:Int):=by omega
    obtain ⟨gr,orr,hA1,hgr,hx1⟩:=HQ.out.r.rests (by rw [BP];omega);rw [hA1] at x22
    have HX:=hid (show Cs w2 (some ⟨gr,orr+k,none⟩) (bP [q.r.r.rests[k]]) from fun _=>⟨gr,orr+k,rfl,Nat.lt_of_lt_of_le hgr HB.out.size,fun j v hv=>by
     cases j with
     |zero =>
      injection hv with hv
      subst hv;exact (HB.out.cell (p:=⟨gr,orr+k,none⟩) hgr).trans (hx1 k _ (bT _ k hkr))
     |succ j=>cases hv⟩)
    have HCH:=hid (show ChsL q.r.r k [q.r.r.rests[k]] from ⟨by simp,fun b hb _=>by rw [List.mem_singleton.1 hb];exact List.getElem?_eq_getElem hkr,fun b h=>by have h2:=h hkr;rw [List.getElem?_eq_getElem hkr] at h2;injection h2 with h2;rw [h2];simp⟩);have hkc:k+1<=q.r.ca:=by omega
    clear hx1 hA1;generalize q.r.r.rests[k]=bb at *;go_wp2_with fail;go_meet;exact ⟨_,[bb],q.r.ca - k,by trivial,HX.out,⟨by simp;omega,by unfold maxLen;omega⟩,HCH.out,rfl⟩
   ·have hkr1:¬ (k:Int)<(q.r.r.rests.length:Int):=by omega
    have HX:=hid (show Cs w2 (some ⟨g2,0,none⟩) (bP [false,true]) from fun _=>⟨g2,0,rfl,lh HK2.out,fun j v hv=>by
     obtain ⟨c0,c1⟩:=C2 HK2.out
     match j,hv with
     |0,hv=>injection hv with hv;subst hv;exact c0
     |1,hv=>injection hv with hv;subst hv;exact c1
     |j+2,hv=>cases hv⟩)
    have HCH:=hid (show ChsL q.r.r k [false,true] from ⟨by simp,fun b _ h=>absurd h hkr,fun b _=>by cases b <;> simp⟩);clear hkr;go_wp2_with fail;go_meet;exact ⟨_,[false,true],2,rfl,HX.out,⟨by simp,by decide⟩,HCH.out,rfl⟩
 case rest =>
  obtain ⟨X,xs,cx,rfl,hcx,hxc,hch,hwc⟩:=hcut;obtain rfl:=hwc.symm;have HX:=hid hcx;have HCH:=hid hch.2.1;have HALL:=hid hch.2.2;have hx2:=hch.1;unfold maxLen at hxc;clear hcx hch x22 HK2;go_wp2_with fail;have hL4:L.length<=4096:=hll
  go_loopw [8,31] (fun o j wr=>∃ (i:Nat) (A':Option Addr) (c':Nat) (L':List LM),i<=L.length/\j=.int .i64 i/\o=.slice A' L'.length c'/\OR wr w2.heap.size 150 7 A' L'.length c' (L'.flatMap LM.cells)/\GL q (k+1) wr L'/\L'.length<=2*i/\CovL q k (L.take i) L' xs/\wr.heap[g1]? = some (.cells (TR q) 84)/\Below w2.heap.size w2 wr) (fun _ j _=>L.length - (intOf j).toNat)
  case atStart=>exact ⟨0,none,0,[],Nat.zero_le _,rfl,rfl,OR.nil _ _ _ _,fun m hm=>absurd hm (by simp),Nat.le_refl _,fun m hm=>absurd hm (by simp),HK1.out,Below.refl _ _⟩
  case round =>
   clear HK1;obtain ⟨i,A',c',L',hi,rfl,rfl,hown,hgl,hlen,hcov,hr1,hbel⟩:=hrel;have HCV:=hid hcov;clear hcov;have HO:=hid hown;have HGL:=hid hgl;have HR1:=hid hr1;have HB2:=hid hbel;clear hown hgl hr1 hbel;by_cases hlt:i<L.length
   ·have hlt1:(i:Int)<(L.length:Int):=by omega
    obtain ⟨ga,oa,hA1,hga,hx1⟩:=eP LM.cells_len (by decide) HC.out (by omega);have HXA:=hid (fun j u h=>((bL HB.out HB2.out).cell (p:=⟨ga,oa+i*7+j,none⟩) hga).trans (hx1 i hlt j u h));have HLM:=hid (HL.out _ (List.getElem_mem hlt));have HTK:=hid (takeT hlt);generalize L[i]=m at *;obtain ⟨n4,p4⟩:=Na wr (.cells (LR m.A m.c m.l) 150)
    have HB4:=hid (bL HB2.out n4);have HO4:=hid (HO.out.below n4);have HG4:=hid (HGL.out.below n4);have HR14:=hid (rK HR1.out n4)
    have HAP:=hid (show Apt A' wr.heap.size from fun off sp e=>by
     rcases HO.out.form with hf | ⟨g,hf⟩
     ·rw [hf] at e;cases e
     ·have h2:OR wr w2.heap.size 150 7 (some ⟨g,0,none⟩) L'.length c' (L'.flatMap LM.cells):=by rw [<- hf];exact HO.out
      have:=h2.typ.2.1;rw [hf] at e;injection e with e
      injection e with e _ _
      omega)
    rw [hA1];clear hx1 n4 HO HGL HR1 HB2;have x0:=HXA.out 0 _ rfl;have x1:=HXA.out 1 _ rfl;have x2:=HXA.out 2 _ rfl;have x3:=HXA.out 3 _ rfl;have x4:=HXA.out 4 _ rfl;have x5:=HXA.out 5 _ rfl;have x6:=HXA.out 6 _ rfl;rw [Nat.add_zero] at x0;go_upto_region 8 with fail
    rw [show wr.alloc (.cells #[.int .i64 m.l.ready,.int .i64 m.l.since,.bool m.l.sh.rest,.int .i64 m.l.sh.dep,.slice m.A m.l.sh.times.length m.c,.int .i64 m.l.sh.fin,.int .i64 m.l.sh.miles] 150)=wr.alloc (.cells (LR m.A m.c m.l) 150) from rfl];generalize wr.alloc (.cells (LR m.A m.c m.l) 150)=w4 at *;obtain ⟨g4,hg4⟩:∃ g4,g4=wr.heap.size:=⟨_,rfl⟩
    rw [<- hg4] at p4 HAP;rw [<- hg4];have HP4:=hid p4;clear x0 x1 x2 x3 x4 x5 x6 p4 hg4 HXA;have HLM4:=hid (show Cj w4 m from HLM.out.1.below (bL HB.out HB4.out));go_wp2_with fail
    go_loopw [8,37] (fun o j wr2=>∃ (i2:Nat) (A2:Option Addr) (c2:Nat) (L2:List LM),i2<=xs.length/\j=.int .i64 i2/\o=.slice A2 L2.length c2/\OR wr2 w2.heap.size 150 7 A2 L2.length c2 (L2.flatMap LM.cells)/\GL q (k+1) wr2 L2/\L2.length<=2*i+i2/\CovL q k (L.take i) L2 xs/\CO q k m.l L2 (xs.take i2)/\wr2.heap[g1]? = some (.cells (TR q) 84)/\wr2.heap[g4]? = some (.cells (LR m.A m.c m.l) 150)/\Apt A2 g4/\Below w2.heap.size w2 wr2) (fun _ j _=>xs.length - (intOf j).toNat)
    case atStart=>exact ⟨0,A',c',L',Nat.zero_le _,rfl,rfl,HO4.out,HG4.out,by omega,HCV.out,fun b hb=>absurd hb (by simp),HR14.out,HP4.out,HAP.out,HB4.out⟩
    case round =>
     clear HO4 HG4 HR14 HP4 HAP HB4 HLM4;obtain ⟨i2,A2,c2,L2,hi2,rfl,rfl,hown,hgl,hlen2,hcv2,hcb2,hr1,hr4,hap,hbel⟩:=hrel;have HCV2:=hid hcv2;have HCB2:=hid hcb2;clear hcv2 hcb2;have HO:=hid hown;have HGL:=hid hgl;have HR1:=hid hr1;have HR4:=hid hr4;have HAP:=hid hap;have HB2:=hid hbel;clear hown hgl hr1 hr4 hap hbel;by_cases hlt2:i2<xs.length
     ·have hlt3:(i2:Int)<(xs.length:Int):=by omega
      obtain ⟨gb,ob,hA2,hgb,hx2'⟩:=HX.out (by rw [BP];omega);have x0:=(HB2.out.cell (p:=⟨gb,ob+i2,none⟩) hgb).trans (hx2' i2 _ (bT xs i2 hlt2));have HBB:=hid (HCH.out _ (List.getElem_mem hlt2));have HTX:=hid (takeT hlt2);generalize xs[i2]=b at *
      have HNX:=hid (show Calls Tryz.prog 72 #[tr q,Db m.A m.c m.l,.int .i64 k,.bool b] wr (NE q m.l k b wr) from by
       obtain ⟨cs,hcs⟩:=HLM.out.2.ok HTR.out (show k<=q.v.stops.length+1 from Nat.le_succ_of_le hk);exact dnext_any q m k b cs wr (HQ.out.below (bL HB.out HB2.out)) (HLM.out.1.below (bL HB.out HB2.out)) hcs hk h8 (HT.out.below (bL HB.out HB2.out)))
      unfold NE at HNX;rw [hA2];clear hx2' hA2;go_wp2_with (first | (refine lr HR1.out Tryz.underlying84 ?_) | (refine lr HR4.out Tryz.underlying150 ?_))
      refine HNX.out.mono ?_;rintro e w5 ⟨he,hb5⟩;have HB5:=hid (bL HB2.out hb5);have HO5:=hid (HO.out.below hb5);have HG5:=hid (HGL.out.below hb5);have HR45:=hid (rK HR4.out hb5);have HR15:=hid (rK HR1.out hb5);clear hb5 x0 HNX HR4 HR1 HB2 HO HGL;rcases hnx:nP q.v m.l k b with ⟨_ | l',z⟩
      ·rw [hnx] at he
       obtain ⟨hz,rfl⟩:=he;have hzb:(z == 0)=false:=by rw [beq_eq_false_iff_ne];exact hz
       obtain ⟨n6,p6⟩:=Na w5 (.cells (LR none 0 lZ) 150);have HB6:=hid (bL HB5.out n6);have HO6:=hid (HO5.out.below n6);have HG6:=hid (HG5.out.below n6);have HR46:=hid (rK HR45.out n6);have HR16:=hid (rK HR15.out n6)
       have HCS:=hid (show CO q k m.l L2 (xs.take (i2+1)) from by rw [HTX.out];exact HCB2.out.snoc (fun l' z h=>by rw [hnx] at h;cases h));clear n6 p6 hnx hz HB5 HO5 HG5 HR45 HR15;go_upto_region 12 with fail
       rw [show w5.alloc (.cells #[.int .i64 lZ.ready,.int .i64 lZ.since,.bool lZ.sh.rest,.int .i64 lZ.sh.dep,.slice none lZ.sh.times.length 0,.int .i64 lZ.sh.fin,.int .i64 lZ.sh.miles] 150)=w5.alloc (.cells (LR none 0 lZ) 150) from rfl];generalize w5.alloc (.cells (LR none 0 lZ) 150)=w6 at *;go_wp2_with fail;go_roundw
       case rel=>exact ⟨i2+1,A2,c2,L2,by omega,by go_num,rfl,HO6.out,HG6.out,by omega,HCV2.out,HCS.out,HR16.out,HR46.out,HAP.out,HB6.out⟩
       case measure=>simp [intOf];omega
      ·rw [hnx] at he
       obtain ⟨A3,c3,rfl,htm3⟩:=he;have HGR:=hid (show Grown q.v (k+1) l' from HLM.out.2.next HBB.out (by rw [hnx];rw [nextP_zero hnx]));obtain ⟨n6,p6⟩:=Na w5 (.cells (LR A3 c3 l') 150);have HB6:=hid (bL HB5.out n6);have HO6:=hid (HO5.out.below n6);have HG6:=hid (HG5.out.below n6);have HR46:=hid (rK HR45.out n6);have HR16:=hid (rK HR15.out n6)
       have HTM6:=hid (htm3.below n6);have HSN:=hid (show ∀ L3,CO q k m.l L3 (xs.take i2)->(∃ m' ∈ L3,bB m'.l l'=true)->CO q k m.l L3 (xs.take (i2+1)) from fun L3 h1 h2=>by rw [HTX.out];exact h1.snoc (fun l2 z2 h=>by rw [hnx] at h;injection h with h _;injection h with h;rw [<- h];exact h2));clear n6 hnx htm3 HB5 HO5 HG5 HR45 HR15;go_upto_region 12 with fail
       rw [show w5.alloc (.cells #[.int .i64 l'.ready,.int .i64 l'.since,.bool l'.sh.rest,.int .i64 l'.sh.dep,.slice A3 l'.sh.times.length c3,.int .i64 l'.sh.fin,.int .i64 l'.sh.miles] 150)=w5.alloc (.cells (LR A3 c3 l') 150) from rfl];generalize w5.alloc (.cells (LR A3 c3 l') 150)=w6 at *;obtain ⟨g6,hg6⟩:∃ g6,g6=w5.heap.size:=⟨_,rfl⟩
       rw [<- hg6] at p6;rw [<- hg6];have HP6:=hid p6;clear p6 hg6;have HHS:=hid (labhas_any L2 A2 c2 g6 A3 c3 l' w6 HO6.out.cells HO6.out.cap HP6.out);go_wp2_with fail;refine HHS.out.mono ?_;rintro e w7 ⟨rfl,hb7⟩;have HB7:=hid (bL HB6.out hb7);have HO7:=hid (HO6.out.below hb7);have HG7:=hid (HG6.out.below hb7);have HR47:=hid (rK HR46.out hb7)
       have HR17:=hid (rK HR16.out hb7);have HTM7:=hid (HTM6.out.below hb7);have HP7:=hid (rK HP6.out hb7);clear hb7 HB6 HO6 HG6 HR46 HR16 HTM6 HP6 HHS
       cases hbb:L2.any (fun m=>bB m.l l') with
       |true =>
        have HCS:=hid (HSN.out L2 HCB2.out (by obtain ⟨m',h1,h2⟩:=List.any_eq_true.1 hbb;exact ⟨m',h1,h2⟩));clear hbb;go_wp2_with fail;go_roundw
        case rel=>exact ⟨i2+1,A2,c2,L2,by omega,by go_num,rfl,HO7.out,HG7.out,by omega,HCV2.out,HCS.out,HR17.out,HR47.out,HAP.out,HB7.out⟩
        case measure=>simp [intOf];omega
       |false =>
        obtain ⟨y0,y1,y2,y3,y4,y5,y6⟩:=cells7 HP7.out;have hbw:=HB7.out.size;clear hbb
        go_wp2_with (at_builtin;refine wp_appN el_lab rfl _ _ rfl w2.heap.size A2 L2.length c2 (L2.flatMap LM.cells) w7 #[.int .i64 l'.ready,.int .i64 l'.since,.bool l'.sh.rest,.int .i64 l'.sh.dep,.slice A3 l'.sh.times.length c3,.int .i64 l'.sh.fin,.int .i64 l'.sh.miles] rfl HO7.out rfl rfl (by intro u hu;simp at hu;rcases hu with rfl | rfl | rfl | rfl | rfl | rfl | rfl <;> rfl) (by unfold maxLen;omega) (by omega) hbw ?_;intro A8 c8 w8 hown8 hb8 hkp8 hwh8)
        clear y0 y1 y2 y3 y4 y5 y6;go_roundw
        case rel =>
         refine ⟨i2+1,A8,c8,L2 ++ [⟨A3,c3,l'⟩],by omega,by go_num,by rw [sL],?_,?_,by rw [sL];omega,HCV2.out.mono _,HSN.out _ (HCB2.out.mono _) ⟨⟨A3,c3,l'⟩,by simp,beats_refl l'⟩,hkp8.row HR17.out (HO7.out.far HR17.out (by decide)),hkp8.row HR47.out HAP.out,?_,?_⟩
         ·rw [sL,<- Fs]
          exact hown8
         ·intro mm hmm
          rcases List.mem_append.1 hmm with h1 | h1
          ·exact ⟨Tt.keptA (HG7.out mm h1).1 hkp8 HO7.out (by decide),(HG7.out mm h1).2⟩
          ·rw [List.mem_singleton.1 h1]
           exact ⟨Tt.keptA HTM7.out hkp8 HO7.out (by decide),HGR.out⟩
         ·rcases hwh8 with h1 | ⟨g,h1,h2⟩
          ·rw [h1];exact HAP.out
          ·intro off sp e
           rw [h1] at e;injection e with e
           injection e with e _ _
           have:=lh HR47.out;omega
         ·exact HB7.out.trans hb8
        case measure=>simp [intOf];omega
     ·have hlt3:¬ (i2:Int)<(xs.length:Int):=by omega
      have HCN:=hid (show CovL q k (L.take (i+1)) L2 xs from by rw [HTK.out];exact HCV2.out.snoc (by have h:=HCB2.out;rw [List.take_of_length_le (by omega)] at h;exact h));go_wp2_with fail;go_roundw
      case rel=>exact ⟨i+1,A2,c2,L2,by omega,by go_num,rfl,HO.out,HGL.out,by omega,HCN.out,HR1.out,HB2.out⟩
      case measure=>simp [intOf];omega
   ·have hlt1:¬ (i:Int)<(L.length:Int):=by omega
    have HCO:=hid (show Covers q k L L' from fun m hm b hb l' z hn=>by have h:=HCV.out;rw [List.take_of_length_le (by omega)] at h;exact h m hm b (HALL.out b hb) l' z hn);go_wp2_with fail;go_ret;exact ⟨A',c',L',rfl,HO.out.mono HB.out.size,HGL.out,by omega,HCO.out,bL HB.out HB2.out⟩
def Agr (rests cs:List Bool):Prop:=∀ j,j<cs.length->j<rests.length->cs[j]? = rests[j]?
def NR (x:IV) (r:RV):Prop:=∀ p,PlanIs x r p->∀ cs,cs.length=p.stops.length+1->r.rests.length<=cs.length->Agr r.rests cs->∀ l z,rP p cs≠(some l,z)
def MinS (p:Tr) (s:SV):Prop:=∀ cs,cs.length=p.stops.length+1->Agr p.r.rests cs->∀ l z,rP p cs=(some l,z)->s.fin<=l.sh.fin
def CompL (p:Tr) (k:Nat) (L:List LM):Prop:=∀ cs,cs.length=k->Agr p.r.rests cs->∀ l z,rP p cs=(some l,z)->∃ m ∈ L,bB m.l l=true
theorem comp0 (q:Ab):CompL q.v 0 [⟨none,0,L0 q.v⟩]:=fun cs hc _ l z hr=>by
 have:cs=[]:=List.length_eq_zero_iff.1 hc;subst this;unfold rP at hr;rw [rF] at hr;injection hr with hr _
 injection hr with hr
 rw [<- hr];exact ⟨_,List.mem_singleton.2 rfl,beats_refl _⟩
theorem next_beats {p:Tr} {m l l':LV} {k:Nat} {b:Bool} {z:Int} (hb:bB m l=true) (hn:nP p l k b=(some l',z)):∃ l2 z2,nP p m k b=(some l2,z2)/\bB l2 l'=true:=by
 obtain ⟨h1,h2⟩:=bi.1 hb;have h3:(if b then 0 else m.since)<=(if b then 0 else l.since):=by split <;> omega
 unfold nP at hn ⊢;simp only at hn ⊢;rw [h1];generalize l.ready+(if b then p.t.rest else 0)=dep at *;generalize (if b then 0 else m.since)=s1 at *;generalize (if b then 0 else l.since)=s2 at *
 cases hst:p.stops[k]? with
 |none =>
  rw [hst] at hn;simp only at hn ⊢;generalize gP p.x p.t.prof (pP p k) p.t.tgt dep=g at *;split at hn
  ·cases hn
  rename_i g1;split at hn
  ·cases hn
  rename_i g2;split at hn
  ·cases hn
  rename_i g3;injection hn with hn _
  injection hn with hn
  subst hn;rw [if_neg g1,if_neg g2,if_neg (by omega)];exact ⟨_,_,rfl,bi.2 ⟨rfl,by simp only;omega⟩⟩
 |some s =>
  rw [hst] at hn;simp only at hn ⊢;generalize gP p.x p.t.prof (pP p k) s.place dep=g at *;split at hn
  ·cases hn
  rename_i g1;split at hn
  ·cases hn
  rename_i g2;split at hn
  ·cases hn
  rename_i g3;injection hn with hn _
  injection hn with hn
  subst hn;rw [if_neg g1,if_neg g2,if_neg (by omega)];exact ⟨_,_,rfl,bi.2 ⟨rfl,by simp only;omega⟩⟩
theorem beats_trans {a b c:LV} (h1:bB a b=true) (h2:bB b c=true):bB a c=true:=by
 have h3:=bi.1 h1;have h4:=bi.1 h2;exact bi.2 ⟨h3.1.trans h4.1,by omega⟩
theorem comp_step {q:Ab} {k:Nat} {L L':List LM} (h:CompL q.v k L) (hc:Covers q k L L'):CompL q.v (k+1) L':=fun cs hl ha l z hr=>by
 obtain ⟨ds,b,rfl⟩:∃ ds b,cs=ds ++ [b]:=⟨cs.dropLast,cs.getLast (by intro e;rw [e] at hl;cases hl),(List.dropLast_concat_getLast _).symm⟩
 have hd:ds.length=k:=by rw [List.length_append] at hl;simpa using hl
 unfold rP at hr;rw [Rc,Nat.zero_add,hd] at hr
 cases hq:rF q.v (L0 q.v) 0 ds with
 |mk o e1 =>
  rw [hq] at hr
  cases o with
  |none=>simp at hr
  |some l1 =>
   simp only at hr
   obtain ⟨m1,hm1,hb1⟩:=h ds hd (fun j hj hjr=>by
    have:=ha j (by rw [List.length_append];omega) hjr;rw [List.getElem?_append_left hj] at this;exact this) l1 e1 hq
   cases hx:nP q.v l1 k b with
   |mk o2 e2 =>
    rw [hx] at hr
    cases o2 with
    |none=>simp at hr
    |some l2 =>
     simp only at hr;injection hr with hr _
     injection hr with hr
     subst hr;obtain ⟨l3,z3,hn3,hb3⟩:=next_beats hb1 hx
     obtain ⟨m',hm',hb'⟩:=hc m1 hm1 b (fun hk=>by
      have:=ha k (by rw [List.length_append,hd];simp) hk;rw [List.getElem?_append_right (by omega),hd,Nat.sub_self] at this;exact this.symm) l3 z3 hn3
     exact ⟨m',hm',beats_trans hb' hb3⟩
theorem run_fin {p:Tr} {cs:List Bool} {l:LV} {z:Int} (hc:cs.length=p.stops.length+1) (hr:rP p cs=(some l,z)):l.ready=l.sh.fin:=by
 have h:=(run_L _ cs l z hc (Nat.le_refl _) hr).ready;rw [if_neg (by omega)] at h;have e:p.stops[p.stops.length+1 - 1]? = none:=List.getElem?_eq_none (by omega);rw [e] at h;exact h
theorem min_of {q:Ab} {k:Nat} {L:List LM} {l:LV} {w:World} (hk:k=q.v.stops.length+1) (hC:CompL q.v k L) (hG:GL q k w L) (hm:∀ j (h:j<L.length),l.sh.fin<=L[j].l.sh.fin):MinS q.v l.sh:=fun cs hc ha l2 z hr=>by
 subst hk;obtain ⟨m,hmL,hb⟩:=hC cs hc ha l2 z hr;obtain ⟨ds,hd,_,hrun⟩:=(hG m hmL).2;have e1:=run_fin hd hrun;have e2:=run_fin hc hr;have e3:=(bi.1 hb).1;obtain ⟨j,hj,rfl⟩:=List.getElem_of_mem hmL;have:=hm j hj;omega
theorem norun_of {q:Ab} {k:Nat} (hk:k=q.v.stops.length+1) (hC:CompL q.v k []) (hq:PlanIs q.m.v q.r.r q.v):NR q.m.v q.r.r:=fun p hp cs hc _ ha l z hr=>by
 have:=PlanIs.one hp hq;subst this;subst hk;obtain ⟨m,hm,_⟩:=hC cs hc ha l z hr;cases hm
def Ck (m:IM) (r:RM) (w:World) (e:Ending) (w':World):Prop:=∃ (A:Option Addr) (c:Nat) (s:SV) (k:Int),e=.returned (.tuple #[Az A c s,.int .i64 k])/\Tt w' A c s.times/\(k=0->∃ p,PlanIs m.v r.r p/\BE p s/\MinS p s)/\(k≠0->NR m.v r.r)/\Below w.heap.size w w'
theorem Ck.no {m:IM} {r:RM} {w w':World} {k:Int} (hk:k≠0) (hn:NR m.v r.r) (hb:Below w.heap.size w w'):Ck m r w (.returned (.tuple #[Az none 0 SZ,.int .i64 k])) w':=⟨none,0,SZ,k,rfl,Tt.nil _,fun h=>absurd h hk,fun _=>hn,hb⟩
theorem Ck.yes {m:IM} {r:RM} {w w':World} {A:Option Addr} {c:Nat} {s:SV} {p:Tr} (ht:Tt w' A c s.times) (hp:PlanIs m.v r.r p) (hs:BE p s) (hm:MinS p s) (hb:Below w.heap.size w w'):Ck m r w (.returned (.tuple #[Az A c s,.int .i64 0])) w':=⟨A,c,s,0,rfl,ht,fun _=>⟨p,hp,hs,hm⟩,fun h=>absurd rfl h,hb⟩
theorem bool_infoT:(Tryz.prog.info? 4).map (fun i=>(i.zero,i.size,i.bytes))=some (some (.bool false),1,1):=by kernel_rfl
theorem el_boolT:Elem Tryz.prog 31 4 (.bool false) 1:=⟨Tryz.underlying31,info_parts bool_infoT,rfl⟩
theorem own_row {w:World} {Bs g n:Nat} {e:TypeId} {xs:List Value} (h:OS w Bs e (some ⟨g,0,none⟩) n n xs):w.heap[g]? = some (.cells xs.toArray e):=by
 rcases h.2 with ⟨hv,_⟩ | ⟨g',cap,cur,hv,hb,hg,hnc,hcm,hcs,htake⟩
 ·injection hv with hv _ _;cases hv
 ·injection hv with hv _ hc
  injection hv with hv
  injection hv with hv _ _
  subst hv hc;rw [hg];have:cur.toList=xs:=by rw [<- htake,List.take_of_length_le (by rw [Array.length_toList,hcs];exact Nat.le_refl _)]
  rw [<- this]
theorem rz (p:Tr):∀ (bs:List Bool) (l:LV) (k:Nat) (l':LV) (z:Int),rF p l k bs=(some l',z)->z=0
 |[],l,k,l',z,h=>by rw [rF] at h;injection h with _ h;exact h.symm
 |b :: bs,l,k,l',z,h=>by
  rw [rF] at h;rcases h2:nP p l k b with ⟨_ | l2,z2⟩
  ·rw [h2] at h;cases h
  ·rw [h2] at h;exact rz p bs l2 (k+1) l' z h
theorem dbest_any (m:IM) (r:RM) (w:World) (hm:IA w m) (hok:IK m.v) (hr:Rt w r) (hvl:r.r.vis.length<=8) (hT:Tb w) :
  Calls Tryz.prog 22 #[iA m,ro r] w (Ck m r w):=by
 obtain ⟨k1,k2,k3,k4⟩:=Av w (.cells (iQ m) 30) (.cells (rR r) 34) (.cells (sQ none 0 SZ) 39);have HB:=hid k4;have HK1:=hid k1;have HK2:=hid k2;have HK3:=hid k3;have HM:=hid hm;have HO:=hid hok;have HR:=hid hr;have HT:=hid hT;have hrl:=hr.rl;unfold maxLen at hrl;clear hm hok hr hT k1 k2 k3 k4;go_enter Tryz.func22,Tryz.ntmps22;(try simp only [Bm])
 go_upto_region 1 with fail
 rw [show ((w.alloc (.cells #[.slice m.pA m.places.length m.pc,.slice m.aA m.arcs.length m.ac,.slice m.tA m.types.length m.tc,.slice m.oA m.ords.length m.oc,.slice m.xA m.apart.length m.xc,.slice m.bA m.before.length m.bc] 30)).alloc (.cells #[.int .i64 r.r.kind,.int .i64 r.r.start,.slice r.A r.r.rests.length r.ca,.slice r.C r.r.vis.length r.cc] 34)).alloc (.cells #[.bool false,.int .i64 0,.slice none 0 0,.int .i64 0,.int .i64 0] 39)=((w.alloc (.cells (iQ m) 30)).alloc (.cells (rR r) 34)).alloc (.cells (sQ none 0 SZ) 39) from rfl]
 generalize ((w.alloc (.cells (iQ m) 30)).alloc (.cells (rR r) 34)).alloc (.cells (sQ none 0 SZ) 39)=w3 at *;obtain ⟨g1,hg1⟩:∃ g1,g1=w.heap.size:=⟨_,rfl⟩
 obtain ⟨g2,hg2⟩:∃ g2,g2=w.heap.size+1:=⟨_,rfl⟩
 obtain ⟨g3,hg3⟩:∃ g3,g3=w.heap.size+1+1:=⟨_,rfl⟩
 rw [<- hg3] at HK3;rw [<- hg3,<- hg2,<- hg1];rw [<- hg2] at HK2;rw [<- hg1] at HK1;have HG:=hid (show w.heap.size<=g3 by omega);clear hg1 hg2 hg3;have HPL:=hid (dplan_any m r w3 (HM.out.below HB.out) HO.out (HR.out.below HB.out) hvl);go_wp2_with (first | (refine lr HK1.out Tryz.underlying30 ?_) | (refine lr HK2.out Tryz.underlying34 ?_))
 refine HPL.out.mono ?_;rintro e w4 ⟨q,ok,rfl,hb4,hqy,hqn⟩;have hqa:∀ w',Below w4.heap.size w4 w'->ok=true->TT w' q/\q.m=m/\q.r=r:=fun w' hb h=>⟨(hqy h).1.below hb,(hqy h).2⟩
 have HQA:=hid hqa;have HQN:=hid hqn
 obtain ⟨p5,n5⟩:=nS w4 #[.slice none 0 0,.slice none 0 0,.slice none 0 0,.slice none 0 0,.slice none 0 0,.slice none 0 0,.string (B []),.int .i64 0,.int .i64 0,.int .i64 0,.slice none 0 0,.int .i64 0,.int .i64 0,.int .i64 0,.int .i64 0,.int .i64 0,.int .i64 0,.int .i64 0,.int .i64 0,.int .i64 0,.int .i64 0,.int .i64 0,.slice none 0 0,.slice none 0 0,.slice none 0 0] (TR q) 84
 have HB5:=hid (bL (bL HB.out hb4) n5);have HN5:=hid n5;have HR25:=hid (rK (rK HK2.out hb4) n5);have HR35:=hid (rK (rK HK3.out hb4) n5);clear hb4 hqy hqn n5 HB HK1 HK2 HK3 HPL hqa;go_upto_region 2 with (refine wpList_store_row rfl 84 _ _ rfl w4.heap.size (TR q) rfl rfl 84 _ (Na w4 _).2 (by kernel_rfl) rfl (by kernel_rfl) ?_)
 generalize (w4.alloc (.cells #[.slice none 0 0,.slice none 0 0,.slice none 0 0,.slice none 0 0,.slice none 0 0,.slice none 0 0,.string (B []),.int .i64 0,.int .i64 0,.int .i64 0,.slice none 0 0,.int .i64 0,.int .i64 0,.int .i64 0,.int .i64 0,.int .i64 0,.int .i64 0,.int .i64 0,.int .i64 0,.int .i64 0,.int .i64 0,.int .i64 0,.slice none 0 0,.slice none 0 0,.slice none 0 0] 84)).setRow w4.heap.size (TR q)=w5 at *
 obtain ⟨g6,hg6⟩:∃ g6,g6=w4.heap.size:=⟨_,rfl⟩
 rw [<- hg6] at p5;rw [<- hg6];have HR65:=hid p5;clear p5 hg6;have y3:=CX HR25.out 3 (.slice r.C r.r.vis.length r.cc) rfl;have y2:=CX HR25.out 2 (.slice r.A r.r.rests.length r.ca) rfl;obtain ⟨n,hn⟩:∃ n,n=r.r.vis.length+1:=⟨_,rfl⟩
 have hn9:n<=9/\1<=n:=by omega
 have hni:(r.r.vis.length:Int)+1=(n:Int):=by omega
 have HNI:=hid hni;have HN:=hid hn;clear hni hn;go_upto_region 3 with fail;try rw [HNI.out]
 cases ok with
 |false =>
  have HS:=hid (rS (sQ none 0 SZ) HR35.out HB5.out HG.out);go_wp2_with (refine sw (sQ none 0 SZ) HR35.out ?_)
  refine bodyPost_ret (rr rfl (Lt HS.out.1) rfl rfl) rfl ?_;exact Ck.no (by decide) (fun p hp=>absurd hp (HQN.out (by first | rfl | trivial) p)) HS.out.2
 |true =>
  obtain ⟨hqt,rfl,rfl⟩:=HQA.out w5 HN5.out rfl;have HQ:=hid hqt;have hsl:q.stops.length=q.r.r.vis.length:=hqt.is.len;have HSL:=hid hsl;have HTR:=hid hqt.trip;clear HQA HQN HN5 hqt hsl;by_cases hlen:n<q.r.r.rests.length
  ·have hlen1:(n:Int)<(q.r.r.rests.length:Int):=by omega
   have HS:=hid (rS (sQ none 0 SZ) HR35.out HB5.out HG.out);go_wp2_with (refine sw (sQ none 0 SZ) HR35.out ?_)
   refine bodyPost_ret (rr rfl (Lt HS.out.1) rfl rfl) rfl ?_
   exact Ck.no (by decide) (fun p hp cs hc hl=>by
    have e:=PlanIs.one hp HQ.out.is;subst e;have h1:=HSL.out;have h2:=HN.out;have h3:cs.length=q.stops.length+1:=hc;omega) HS.out.2
  ·have hlen1:¬ (n:Int)<(q.r.r.rests.length:Int):=by omega
   have HBG:=hid (dbegin_any q w5);go_upto_region 5 with fail;clear y3 y2;go_wp2_with (refine lr HR65.out Tryz.underlying84 ?_)
   refine HBG.out.mono ?_;rintro e w6 ⟨rfl,hb6⟩;obtain ⟨n7,p7⟩:=Na w6 (.cells (LR none 0 (L0 q.v)) 150);have HB7:=hid (bL (bL HB5.out hb6) n7);have HR27:=hid (rK (rK HR25.out hb6) n7);have HR37:=hid (rK (rK HR35.out hb6) n7);have HR67:=hid (rK (rK HR65.out hb6) n7);have HQ7:=hid ((HQ.out.below hb6).below n7)
   clear hb6 n7 HB5 HR25 HR35 HR65 HQ HBG;go_upto_region 7 with fail;rw [show w6.alloc (.cells #[.int .i64 (L0 q.v).ready,.int .i64 (L0 q.v).since,.bool (L0 q.v).sh.rest,.int .i64 (L0 q.v).sh.dep,.slice none (L0 q.v).sh.times.length 0,.int .i64 (L0 q.v).sh.fin,.int .i64 (L0 q.v).sh.miles] 150)=w6.alloc (.cells (LR none 0 (L0 q.v)) 150) from rfl]
   generalize w6.alloc (.cells (LR none 0 (L0 q.v)) 150)=w7 at *;obtain ⟨gl,hgl⟩:∃ gl,gl=w6.heap.size:=⟨_,rfl⟩
   rw [<- hgl] at p7;rw [<- hgl];have HC0:=hid (show Cs w7 (some ⟨gl,0,none⟩) ([(⟨none,0,L0 q.v⟩:LM)].flatMap LM.cells) from fun _=>⟨gl,0,rfl,lh p7,fun j v hv=>by rw [Nat.zero_add];exact CX p7 j v (by simpa [LM.cells,LR] using hv)⟩);clear p7 hgl
   go_loopw [9,10,39] (fun s _ j wr=>∃ (k:Nat) (A:Option Addr) (c:Nat) (L:List LM),k<=n/\j=.int .i64 k/\s=.slice A L.length c/\Cs wr A (L.flatMap LM.cells)/\(L.length<=c/\c<=maxLen)/\GL q k wr L/\L.length<=2 ^ k/\CompL q.v k L/\wr.heap[g6]? = some (.cells (TR q) 84)/\wr.heap[g2]? = some (.cells (rR q.r) 34)/\wr.heap[g3]? = some (.cells (sQ none 0 SZ) 39)/\TT wr q/\Below w.heap.size w wr) (fun _ _ j _=>n - (intOf j).toNat)
   case atStart=>exact ⟨0,some ⟨gl,0,none⟩,1,[⟨none,0,L0 q.v⟩],Nat.zero_le _,rfl,rfl,HC0.out,⟨Nat.le_refl _,by decide⟩,fun m hm=>by rw [List.mem_singleton.1 hm];exact ⟨Tt.nil _,grown0 _⟩,Nat.le_refl _,comp0 q,HR67.out,HR27.out,HR37.out,HQ7.out,HB7.out⟩
   case round =>
    clear HC0 HR67 HR27 HR37 HQ7 HB7;obtain ⟨k,A,c,L,hk,rfl,rfl,hca,hcc,hgl,hln,hcl,hr6,hr2,hr3,hqa,hbel⟩:=hrel;have HCL:=hid hcl;clear hcl;have HCA:=hid hca;have HCC:=hid hcc;have HGL:=hid hgl;have HR6:=hid hr6;have HR2:=hid hr2;have HR3:=hid hr3;have HQ:=hid hqa;have HB:=hid hbel;have HLN:=hid hln
    have hl5:L.length<=512:=Nat.le_trans hln (Nat.pow_le_pow_right (by decide) (show k<=9 by omega));unfold maxLen at hcc;clear hca hgl hr6 hr2 hr3 hqa hbel hln;by_cases hlt:k<n
    ·have hlt1:(k:Int)<(n:Int):=by omega
     have HGW:=hid (dgrow_any q L A c k wr HQ.out HCA.out HCC.out HGL.out (by have:=HSL.out;have:=HN.out;omega) (by omega) (by have:=HSL.out;omega) (HT.out.below HB.out));go_wp2_with (refine lr HR6.out Tryz.underlying84 ?_)
     refine HGW.out.mono ?_;rintro e w8 ⟨A',c',L',rfl,hown,hgl',hln',hcv,hb8⟩;have HCN:=hid (comp_step HCL.out hcv);clear hcv;have HC8:=hid hown.cells;have HP8:=hid hown.cap;have HG8:=hid hgl';have HL8:=hid hln';have HB8:=hid (bL HB.out hb8);have HR68:=hid (rK HR6.out hb8);have HR28:=hid (rK HR2.out hb8);have HR38:=hid (rK HR3.out hb8)
     have HQ8:=hid (HQ.out.below hb8);clear hown hgl' hln' hb8;go_wp2_with fail;go_roundw
     case rel=>exact ⟨k+1,A',c',L',by omega,by go_num,rfl,HC8.out,HP8.out,HG8.out,by rw [Nat.pow_succ];have h1:=HLN.out;have h2:=HL8.out;omega,HCN.out,HR68.out,HR28.out,HR38.out,HQ8.out,HB8.out⟩
     case measure=>simp [intOf];omega
    ·have hlt1:¬ (k:Int)<(n:Int):=by omega
     have hkn:k=n:=by omega
     subst hkn;have hks:k=q.v.stops.length+1:=by have h1:=HSL.out;have h2:=HN.out;show k=q.stops.length+1;omega
     have HKS:=hid hks;clear hks hk hlt hlt1 HNI;by_cases h0:L.length=0
     ·have h0b:((L.length:Int) == 0)=true:=iB (by omega)
      have HNR:=hid (show NR q.m.v q.r.r from norun_of (k:=k) HKS.out (by have h:=HCL.out;rw [List.length_eq_zero_iff.1 h0] at h;exact h) HQ.out.is);have HAB:=hid h0b;go_upto_region 13 with (refine wp_mkn el_boolT rfl _ _ rfl wr.heap.size _ .i64 .i64 _ _ k rfl rfl rfl rfl (by omega) (by unfold maxLen;omega) (Nat.le_refl _) rfl ?_;intro X0 w1 hown0 hb1)
      obtain ⟨gx,hX0,hgx,_⟩:=hown0.at_ (by omega);subst hX0;have hrow:=own_row hown0;have HB1:=hid (bL HB.out hb1);have HR61:=hid (rK HR6.out hb1);have HR21:=hid (rK HR2.out hb1);have HR31:=hid (rK HR3.out hb1);have HQ1:=hid (HQ.out.below hb1);have HWX:=hid (show wr.heap.size<=gx from hgx)
      have HBW:=hid (show w.heap.size<=wr.heap.size from HB.out.size);have HLT6:=hid (lh HR6.out);have HLT3:=hid (lh HR3.out);have HNX6:=hid (show g6≠gx from Nat.ne_of_lt (Nat.lt_of_lt_of_le (lh HR6.out) hgx));have HNX3:=hid (show g3≠gx from Nat.ne_of_lt (Nat.lt_of_lt_of_le (lh HR3.out) hgx))
      have HQW:=hid (fun (wz:World) (hb:Below wr.heap.size wr wz)=>HQ.out.below hb);have HBWX:=hid hb1;have HROW:=hid hrow;have y2:=CX HR21.out 2 (.slice q.r.A q.r.r.rests.length q.r.ca) rfl;obtain ⟨bs,hbs⟩:∃ bs,bs=q.r.r.rests ++ List.replicate (k - q.r.r.rests.length) false:=⟨_,rfl⟩
      have hbl:bs.length=k:=by rw [hbs,List.length_append,List.length_replicate];omega
      have htk:bs.take q.r.r.rests.length=q.r.r.rests:=by rw [hbs];simp
      have HBS:=hid hbs;have HBL:=hid hbl;have HTK:=hid htk;have hml:q.r.r.rests.length<=k:=by omega
      have hrep:(List.replicate k (Value.bool false))=bP (List.replicate k false):=by simp [bP]
      have HREP:=hid hrep;clear hown0 hb1 hrow HR6 HR2 HR3 HQ HB hbs hbl htk hrep hgx h0b h0;go_cut [] (fun wx=>wx.heap[gx]? = some (.cells (bP bs).toArray 4)/\Below gx w1 wx)
      case first =>
       by_cases hm0:q.r.r.rests.length=0
       ·have hE:=hid (show bs=List.replicate k false by rw [HBS.out,List.length_eq_zero_iff.1 hm0];simp)
        have HM0:=hid hm0;clear hm0;go_wp2_with (refine wpList_copy_nothing rfl _ _ 31 31 rfl 4 Tryz.underlying31 (by kernel_rfl) _ _ _ _ _ _ rfl rfl (by rw [HM0.out];exact Nat.zero_min _) ?_)
        go_meet;refine ⟨?_,Below.refl _ _⟩;rw [hE.out,<- HREP.out];exact HROW.out
       ·obtain ⟨gr,orr,hA1,hgr,hx1⟩:=HR.out.rests (by rw [BP];omega)
        have HX:=hid (fun j v h=>(HB1.out.cell (p:=⟨gr,orr+j,none⟩) hgr).trans (hx1 j v h));have HA1:=hid hA1;rw [hA1] at y2;clear hx1 hA1
        go_wp2_with (refine wpList_copy_own rfl _ _ 31 31 rfl 4 Tryz.underlying31 (by kernel_rfl) gx 0 _ _ ⟨gr,orr,none⟩ _ _ rfl rfl (List.replicate k (Value.bool false)).toArray 4 HROW.out (bP q.r.r.rests) (by rw [BP];exact (Nat.min_eq_left hml).symm) (fun j v hv=>by rw [Go.WideShapes.add_plain];exact HX.out j v hv) (by rw [BP];simp;omega) (fun v hv=>by unfold bP at hv;obtain ⟨s,_,rfl⟩:=List.mem_map.1 hv;rfl) ?_)
        go_meet;refine ⟨?_,below_setRow (Below.refl _ _) (Nat.le_refl _) _⟩;rw [setRow_heap _ _ _ _ _ _ HROW.out,HBS.out];congr 3
        simp [bP]
      case rest =>
       obtain ⟨hrowc,hbc⟩:=hcut;have HRC:=hid hrowc;have HB2:=hid (bL HB1.out (show Below w1.heap.size w1 w1 from Below.refl _ _));have HGX:=hid (show g6≠gx/\g3≠gx/\w.heap.size<=gx from ⟨HNX6.out,HNX3.out,Nat.le_trans HBW.out HWX.out⟩);have HR62:=hid (show wc.heap[g6]? = _ from (hbc.block g6 (Nat.lt_of_lt_of_le HLT6.out HWX.out)).trans HR61.out)
       have HR32:=hid (show wc.heap[g3]? = _ from (hbc.block g3 (Nat.lt_of_lt_of_le HLT3.out HWX.out)).trans HR31.out);have HBC:=hid (show Below w.heap.size w wc from HB1.out.trans (hbc.mono (Nat.le_trans HBW.out HWX.out)));have HQC:=hid (show TT wc q from HQW.out wc (HBWX.out.trans (hbc.mono HWX.out)));clear hrowc hbc HROW HR61 HR21 HR31 HB1 HQ1 HB2
       have HCB:=hid (show Cs wc (some ⟨gx,0,none⟩) (bP bs) from fun _=>⟨gx,0,rfl,lh HRC.out,fun j v hv=>by rw [Nat.zero_add];exact CX HRC.out j v (by simpa using hv)⟩)
       have HRU:=hid (drun_any q bs (some ⟨gx,0,none⟩) k wc HQC.out HCB.out ⟨by have:=HBL.out;omega,by unfold maxLen;omega⟩ (by have h1:=HBL.out;have h2:=HKS.out;show bs.length<=q.stops.length+1;have h3:q.v.stops.length=q.stops.length:=rfl;omega) (by have:=HSL.out;omega) (HT.out.below HBC.out));rw [HBL.out] at HRU;unfold RunE at HRU;rcases hrun:rP q.v bs with ⟨_ | l,z⟩
       ·rw [hrun] at HRU
        clear hrun;go_wp2_with (refine lr HR62.out Tryz.underlying84 ?_)
        refine HRU.out.mono ?_;rintro e w9 ⟨⟨hz,rfl⟩,hb9⟩;have HR39:=hid (rK HR32.out hb9);have HB9:=hid (bL HBC.out hb9);have HZ:=hid hz;have HS:=hid (rS (sQ none 0 SZ) HR39.out HB9.out HG.out);clear hb9 hz;go_wp2_with (refine sw (sQ none 0 SZ) HR39.out ?_)
        refine bodyPost_ret (rr rfl (Lt HS.out.1) rfl rfl) rfl ?_;exact Ck.no HZ.out HNR.out HS.out.2
       ·rw [hrun] at HRU
        have HRN:=hid (show rP q.v bs=(some l,0) by rw [hrun,rz q.v bs _ 0 l z hrun]);clear hrun;go_wp2_with (refine lr HR62.out Tryz.underlying84 ?_)
        refine HRU.out.mono ?_;rintro e w9 ⟨⟨A9,c9,rfl,htm⟩,hb9⟩;have HR39:=hid (rK HR32.out hb9);have HB9:=hid (bL HBC.out hb9);have HTM:=hid htm;have HS:=hid (rS (sQ A9 c9 l.sh) HR39.out HB9.out HG.out);clear hb9 htm;go_wp2_with (refine sw (sQ A9 c9 l.sh) HR39.out ?_)
        refine bodyPost_ret (rr rfl (Lt HS.out.1) rfl rfl) rfl ?_
        exact absurd HRN.out (HNR.out q.v HQC.out.is bs (by rw [HBL.out];exact HKS.out) (by rw [HBL.out];exact hml) (fun j hj hjr=>by
         have h:=HTK.out;rw [<- h,List.getElem?_take,if_pos hjr]) l 0)
     ·have h0b:((L.length:Int) == 0)=false:=ib (by omega)
      have hl1:0<L.length:=by omega
      have hl1i:(0:Int)<(L.length:Int):=by omega
      obtain ⟨gA,oA,hA1,hgA,hx1⟩:=eP LM.cells_len (by decide) HCA.out hl1;have HXA:=hid (fun (wz:World) (hb:Below wr.heap.size wr wz) i (hi:i<L.length) j u (h:(L[i]).cells[j]? = some u)=>(hb.cell (p:=⟨gA,oA+i*7+j,none⟩) hgA).trans (hx1 i hi j u h));have HX0:=hid (HXA.out wr (Below.refl _ _) 0 hl1);have HG0:=hid (HGL.out _ (List.getElem_mem hl1))
      have HXL:=hid (show ∀ i (hi:i<L.length),Cj wr L[i]/\Grown q.v k L[i].l from fun i hi=>HGL.out _ (List.getElem_mem hi))
      have HM0:=hid (show ∀ x:LM,x=L[0]->∀ j (h:j<L.length),j<=0->x.l.sh.fin<=L[j].l.sh.fin from fun x hx j h hj=>by
       have:j=0:=by omega
       subst this;rw [hx];exact Int.le_refl _)
      generalize L[0]=m0 at *;have HA1:=hid hA1;rw [hA1];have x0:=HX0.out 0 _ rfl;have x1:=HX0.out 1 _ rfl;have x2:=HX0.out 2 _ rfl;have x3:=HX0.out 3 _ rfl;have x4:=HX0.out 4 _ rfl;have x5:=HX0.out 5 _ rfl;have x6:=HX0.out 6 _ rfl;simp only [Nat.zero_mul,Nat.add_zero] at x0 x1 x2 x3 x4 x5 x6;obtain ⟨n4,p4⟩:=Na wr (.cells (LR m0.A m0.c m0.l) 150);have HN4:=hid n4;clear hx1 n4 hA1 h0
      go_upto_region 16 with fail;rw [show wr.alloc (.cells #[.int .i64 m0.l.ready,.int .i64 m0.l.since,.bool m0.l.sh.rest,.int .i64 m0.l.sh.dep,.slice m0.A m0.l.sh.times.length m0.c,.int .i64 m0.l.sh.fin,.int .i64 m0.l.sh.miles] 150)=wr.alloc (.cells (LR m0.A m0.c m0.l) 150) from rfl];generalize wr.alloc (.cells (LR m0.A m0.c m0.l) 150)=w4 at *;obtain ⟨g4,hg4⟩:∃ g4,g4=wr.heap.size:=⟨_,rfl⟩
      rw [<- hg4] at p4;rw [<- hg4];have HP4:=hid p4;have HG4:=hid (show w.heap.size<=g4 by rw [hg4];exact HB.out.size);have HG34:=hid (show g3≠g4 by rw [hg4];exact Nat.ne_of_lt (lh HR3.out));have HGA4:=hid (show gA≠g4 by rw [hg4];exact Nat.ne_of_lt hgA);have HW:=hid (show wr.heap.size<=g4 by omega);clear x0 x1 x2 x3 x4 x5 x6 p4 hg4;generalize hwo:wr=wo at *;clear hwo
      have hlm:(L.length:Int) - 1=((L.length - 1:Nat):Int):=by omega
      go_cut [65,66,67] (fun s nn j wx=>∃ (X:Option Addr) (cx:Nat),s=.slice X (L.length - 1) cx/\nn=.int .i64 ((L.length - 1:Nat):Int)/\j=.int .i64 0/\(1<L.length->X=some ⟨gA,oA+7,none⟩)/\wx=w4)
      case first =>
       go_wp2_with fail
       ·subst h
        go_meet;refine ⟨_,_,rfl,by first | rfl | (rw [hlm]),rfl,fun h1=>?_,rfl⟩;exact absurd hcc.1 (by omega)
       ·go_meet
        exact ⟨_,_,rfl,by first | rfl | (rw [hlm]),rfl,fun h1=>by first | rfl | trivial,rfl⟩
      case rest =>
       obtain ⟨X,cx,rfl,rfl,rfl,hX,hwc⟩:=hcut;obtain rfl:=hwc.symm;have HX:=hid hX;have HW4:=hid (show Cj w4 m0 from HG0.out.1.below HN4.out);clear hX hlm;obtain ⟨n1,hn1⟩:∃ n1,n1=L.length - 1:=⟨_,rfl⟩
       rw [<- hn1];have HN1:=hid hn1;have hn1b:n1<=512:=by omega
       clear hn1;go_wp2_with fail;go_loopw [67] (fun j wr=>∃ (i:Nat) (A:Option Addr) (c:Nat) (l:LV),i<=n1/\j=.int .i64 i/\wr.heap[g4]? = some (.cells (LR A c l) 150)/\Tt wr A c l.sh.times/\Grown q.v k l/\(∀ j (h:j<L.length),j<=i->l.sh.fin<=L[j].l.sh.fin)/\wr.heap[g3]? = some (.cells (sQ none 0 SZ) 39)/\Below wo.heap.size wo wr) (fun j _=>n1 - (intOf j).toNat)
       case atStart=>exact ⟨0,m0.A,m0.c,m0.l,Nat.zero_le _,rfl,HP4.out,HW4.out,HG0.out.2,HM0.out m0 rfl,rK HR3.out HN4.out,HN4.out⟩
       case round =>
        clear HP4 HW4 HG0 HN4 HX0;obtain ⟨i,A2,c2,l,hi,rfl,hr4,htm,hgr,hmin,hr3,hbel⟩:=hrel;have HMIN:=hid hmin;clear hmin;have HR4:=hid hr4;have HTM:=hid htm;have HGR:=hid hgr;have HRR3:=hid hr3;have HBB:=hid hbel;clear hr4 htm hgr hr3 hbel;by_cases hlt:i<n1
        ·have hlt1:(i:Int)<(n1:Int):=by omega
         have hil:i+1<L.length:=by have:=HN1.out;omega
         have hXe:=HX.out (by omega);have HXI:=hid (fun j u h=>(HXA.out wr HBB.out (i+1) hil j u h));have HLI:=hid (HXL.out (i+1) hil)
         have HS1:=hid (show ∀ x:LM,x=L[i+1]->x.l.sh.fin<l.sh.fin->∀ j (h:j<L.length),j<=i+1->x.l.sh.fin<=L[j].l.sh.fin from fun x hx hlt j h hj=>by
          by_cases e:j=i+1
          ·subst e;rw [hx];exact Int.le_refl _
          ·have:=HMIN.out j h (by omega);omega)
         have HS2:=hid (show ∀ x:LM,x=L[i+1]->¬ x.l.sh.fin<l.sh.fin->∀ j (h:j<L.length),j<=i+1->l.sh.fin<=L[j].l.sh.fin from fun x hx hlt j h hj=>by
          by_cases e:j=i+1
          ·subst e;rw [<- hx];omega
          ·exact HMIN.out j h (by omega))
         generalize L[i+1]=mi at *;have x0:=HXI.out 0 _ rfl;have x1:=HXI.out 1 _ rfl;have x2:=HXI.out 2 _ rfl;have x3:=HXI.out 3 _ rfl;have x4:=HXI.out 4 _ rfl;have x5:=HXI.out 5 _ rfl;have x6:=HXI.out 6 _ rfl;simp only [show oA+(i+1)*7=oA+7+i*7 by omega,Nat.add_zero] at x0 x1 x2 x3 x4 x5 x6;obtain ⟨n6,p6⟩:=Na wr (.cells (LR mi.A mi.c mi.l) 150);have HB6:=hid (bL HBB.out n6)
         have HR46:=hid (rK HR4.out n6);have HRR36:=hid (rK HRR3.out n6);have HTM6:=hid (HTM.out.below n6);have HLI6:=hid (show Cj (wr.alloc (.cells (LR mi.A mi.c mi.l) 150)) mi from (HLI.out.1.below HBB.out).below n6);rw [hXe];clear n6 hXe HXI;go_upto_region 19 with fail
         rw [show wr.alloc (.cells #[.int .i64 mi.l.ready,.int .i64 mi.l.since,.bool mi.l.sh.rest,.int .i64 mi.l.sh.dep,.slice mi.A mi.l.sh.times.length mi.c,.int .i64 mi.l.sh.fin,.int .i64 mi.l.sh.miles] 150)=wr.alloc (.cells (LR mi.A mi.c mi.l) 150) from rfl];generalize wr.alloc (.cells (LR mi.A mi.c mi.l) 150)=w6 at *;obtain ⟨g6',hg6'⟩:∃ g6',g6'=wr.heap.size:=⟨_,rfl⟩
         rw [<- hg6'] at p6;rw [<- hg6'];have HP6:=hid p6;clear x0 x1 x2 x3 x4 x5 x6 p6 hg6' HBB HR4 HRR3 HTM;have a5:=CX HP6.out 5 (.int .i64 mi.l.sh.fin) rfl;have b5:=CX HR46.out 5 (.int .i64 l.sh.fin) rfl;by_cases hf:mi.l.sh.fin<l.sh.fin
         ·have HS:=hid (rS (LR mi.A mi.c mi.l) HR46.out HB6.out (show wo.heap.size<=g4 from HW.out))
          have HMN:=hid (HS1.out mi rfl hf);go_wp2_with (first | (refine lr HP6.out Tryz.underlying150 ?_) | (refine sw (LR mi.A mi.c mi.l) HR46.out ?_))
          go_roundw
          case rel=>exact ⟨i+1,mi.A,mi.c,mi.l,by omega,by go_num,HS.out.1,Tt.keep HLI6.out HR46.out (by decide) (by rw [setRow_size];exact Nat.le_refl _) (fun k _ hk=>setRow_other _ _ _ _ hk),HLI.out.2,HMN.out,(setRow_other _ _ _ _ HG34.out).trans HRR36.out,HS.out.2⟩
          case measure=>simp [intOf];omega
         ·have HMN:=hid (HS2.out mi rfl hf)
          go_wp2_with fail;go_roundw
          case rel=>exact ⟨i+1,A2,c2,l,by omega,by go_num,HR46.out,HTM6.out,HGR.out,HMN.out,HRR36.out,HB6.out⟩
          case measure=>simp [intOf];omega
        ·have hlt1:¬ (i:Int)<(n1:Int):=by omega
         have y2:=CX HR4.out 2 (.bool l.sh.rest) rfl;have y3:=CX HR4.out 3 (.int .i64 l.sh.dep) rfl;have y4:=CX HR4.out 4 (.slice A2 l.sh.times.length c2) rfl;have y5:=CX HR4.out 5 (.int .i64 l.sh.fin) rfl;have y6:=CX HR4.out 6 (.int .i64 l.sh.miles) rfl;have HS:=hid (rS (sQ A2 c2 l.sh) HRR3.out (bL HB.out HBB.out) HG.out)
         go_wp2_with (refine sw (sQ A2 c2 l.sh) HRR3.out ?_)
         refine bodyPost_ret (rr rfl (Lt HS.out.1) rfl rfl) rfl ?_;refine Ck.yes (p:=q.v) ?_ HQ.out.is ?_ (min_of HKS.out HCL.out HGL.out (fun j hj=>HMIN.out j hj (by have:=HN1.out;omega))) HS.out.2
         ·exact Tt.keep HTM.out HRR3.out (by decide) (by rw [setRow_size];exact Nat.le_refl _) (fun k _ hk=>setRow_other _ _ _ _ hk)
         ·have hh:=HGR.out
          rw [HKS.out] at hh;exact hh.best (by have:=HKS.out;show q.r.r.rests.length<=_;omega)
end Go.Proofs.YtjcekdiocliddaaGreatDoor

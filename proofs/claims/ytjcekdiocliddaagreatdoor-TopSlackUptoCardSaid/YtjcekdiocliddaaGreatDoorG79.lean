/- drive: beats, the closure of grow, slices.IndexFunc and ContainsFunc over labels. -/
import Derived.Test.YtjcekdiocliddaaGreatDoorG78
import Derived.Test.YtjcekdiocliddaaGreatDoorG66
import Derived.Test.YtjcekdiocliddaaGreatDoorG73
namespace Go.Proofs.YtjcekdiocliddaaGreatDoor
open Go.RowKit Num Txt Pf Tk
set_option linter.unusedVariables false
attribute [local go_sem] B_size B_get B_toList B_mk B_extract B_append
def beatsB (l m:LabV):Bool:=l.ready == m.ready && decide (l.since≤m.since)
theorem beatsB_iff {l m:LabV}:beatsB l m=true↔l.ready=m.ready∧l.since≤m.since:=by unfold beatsB;rw [Bool.and_eq_true,beq_iff_eq,decide_eq_true_eq]
set_option maxHeartbeats 4000000 in
set_option maxRecDepth 100000 in
theorem beats_any (A C:Option Addr) (ca cc:Nat) (l m:LabV) (w:World):Calls Tryz.prog 125 #[labA A ca l,labA C cc m] w fun e w'=>e=.returned (.bool (beatsB l m))∧Below w.heap.size w w':=by
 obtain ⟨k1,k2,k3⟩:=alloc2 w (.cells (labR A ca l) 150) (.cells (labR C cc m) 150)
 have HB:=Lib.hid k3
 have a0:=cellsX k1 0 (.int .i64 l.ready) rfl
 have a1:=cellsX k1 1 (.int .i64 l.since) rfl
 have b0:=cellsX k2 0 (.int .i64 m.ready) rfl
 have b1:=cellsX k2 1 (.int .i64 m.since) rfl
 clear k1 k2 k3
 by_cases h:l.ready=m.ready
 ·have hb:=int_bt h
  have HV:=Lib.hid (show beatsB l m=decide (l.since≤m.since) by unfold beatsB;rw [hb];rfl)
  clear h
  go_enter Tryz.func125,Tryz.ntmps125
  go_upto_region 1 with fail
  rw [show (w.alloc (.cells #[.int .i64 l.ready,.int .i64 l.since,.bool l.sh.rest,.int .i64 l.sh.dep,.slice A l.sh.times.length ca,.int .i64 l.sh.fin,.int .i64 l.sh.miles] 150)).alloc (.cells #[.int .i64 m.ready,.int .i64 m.since,.bool m.sh.rest,.int .i64 m.sh.dep,.slice C m.sh.times.length cc,.int .i64 m.sh.fin,.int .i64 m.sh.miles] 150)=(w.alloc (.cells (labR A ca l) 150)).alloc (.cells (labR C cc m) 150) from rfl]
  generalize (w.alloc (.cells (labR A ca l) 150)).alloc (.cells (labR C cc m) 150)=w2 at *
  go_wp2_with fail
  go_ret
  exact ⟨ret_bool HV.out.symm,HB.out⟩
 ·have hb:=int_bf h
  have HV:=Lib.hid (show beatsB l m=false by unfold beatsB;rw [hb];rfl)
  clear h
  go_enter Tryz.func125,Tryz.ntmps125
  go_upto_region 1 with fail
  rw [show (w.alloc (.cells #[.int .i64 l.ready,.int .i64 l.since,.bool l.sh.rest,.int .i64 l.sh.dep,.slice A l.sh.times.length ca,.int .i64 l.sh.fin,.int .i64 l.sh.miles] 150)).alloc (.cells #[.int .i64 m.ready,.int .i64 m.since,.bool m.sh.rest,.int .i64 m.sh.dep,.slice C m.sh.times.length cc,.int .i64 m.sh.fin,.int .i64 m.sh.miles] 150)=(w.alloc (.cells (labR A ca l) 150)).alloc (.cells (labR C cc m) 150) from rfl]
  generalize (w.alloc (.cells (labR A ca l) 150)).alloc (.cells (labR C cc m) 150)=w2 at *
  go_wp2_with fail
  go_ret
  exact ⟨ret_bool HV.out.symm,HB.out⟩
set_option maxHeartbeats 4000000 in
set_option maxRecDepth 100000 in
theorem grow1_any (A C:Option Addr) (ca cc:Nat) (l m:LabV) (gt:Nat) (w:World) (hg:w.heap[gt]? = some (.cells (labR C cc m) 150)):Calls Tryz.prog 124 #[labA A ca l,.pointer (some ⟨gt,0,none⟩)] w fun e w'=>e=.returned (.bool (beatsB l m))∧Below w.heap.size w w':=by
 obtain ⟨n4,p4⟩:=new_at w (.cells (labR A ca l) 150)
 have HB:=Lib.hid n4
 have HP:=Lib.hid p4
 have HGT:=Lib.hid (row_keep hg n4)
 clear n4 p4 hg
 go_enter Tryz.func124,Tryz.ntmps124
 go_upto_region 1 with fail
 rw [show (w.alloc (.cells #[.int .i64 l.ready,.int .i64 l.since,.bool l.sh.rest,.int .i64 l.sh.dep,.slice A l.sh.times.length ca,.int .i64 l.sh.fin,.int .i64 l.sh.miles] 150))=(w.alloc (.cells (labR A ca l) 150)) from rfl]
 generalize (w.alloc (.cells (labR A ca l) 150))=w2 at *
 go_wp2_with (first | (refine wpList_load_row rfl 150 _ rfl gt rfl 150 _ _ _ HGT.out Tryz.underlying150 rfl (by kernel_rfl) ?_) | (refine wpList_load_row rfl 150 _ rfl w.heap.size rfl 150 _ _ _ HP.out Tryz.underlying150 rfl (by kernel_rfl) ?_))
 refine (beats_any A C ca cc l m w2).mono ?_
 rintro e w3 ⟨rfl,hb3⟩
 have HB3:=Lib.hid (below_lift HB.out hb3)
 clear hb3
 go_wp2_with fail
 go_ret
 exact ⟨rfl,HB3.out⟩
set_option maxHeartbeats 8000000 in
set_option maxRecDepth 100000 in
theorem labidx_any (l:List LabM) (A:Option Addr) (c:Nat) (gt:Nat) (C:Option Addr) (cc:Nat) (q:LabV) (w:World) (hc:Cells w A (l.flatMap LabM.cells)) (hn:l.length≤c∧c≤maxLen) (hg:w.heap[gt]? = some (.cells (labR C cc q) 150)) :
  Calls Tryz.prog 163 #[.slice A l.length c,.func (Fn.func 124) #[] #[.pointer (some ⟨gt,0,none⟩)]] w fun e w'=>e=.returned (.int .i64 (idxZ (fun m:LabM=>beatsB m.l q) l))∧Below w.heap.size w w':=by
 unfold maxLen at hn
 have HC:=Lib.hid hc
 have HF:=Lib.hid (show ∀ m ∈ l,∀ w',Below w.heap.size w w'→Calls Tryz.prog 124 #[labA m.A m.c m.l,.pointer (some ⟨gt,0,none⟩)] w' (fun e w2=>e=.returned (.bool (beatsB m.l q))∧Below w'.heap.size w' w2) from fun m _ w' hb=>grow1_any m.A C m.c cc m.l q gt w' (row_keep hg hb))
 clear hc hg
 go_enter Tryz.func163,Tryz.ntmps163
 go_wp2_with fail
 go_loopw [4,5,8] (fun _ _ j wr=>∃ k:Nat,k≤l.length∧j=.int .i64 k∧(∀ i (h:i<l.length),i<k→beatsB l[i].l q=false)∧Below w.heap.size w wr) (fun _ _ j _=>l.length - (intOf j).toNat)
 case atStart=>exact ⟨0,Nat.zero_le _,rfl,fun i _ h=>absurd h (Nat.not_lt_zero _),Below.refl _ _⟩
 case round =>
  obtain ⟨k,hk,rfl,hno,hbel⟩:=hrel
  have HB:=Lib.hid hbel
  have HNO:=Lib.hid hno
  clear hbel hno
  by_cases hlt:k<l.length
  ·have hlt1:(k:Int)<(l.length:Int):=by omega
   obtain ⟨g1,o1,hA1,hg1,hx1⟩:=elemsP LabM.cells_len (by decide) HC.out (by omega)
   subst hA1
   have HX:=Lib.hid (fun j u h=>(HB.out.cell (p:=⟨g1,o1+k*7+j,none⟩) hg1).trans (hx1 k hlt j u h))
   have HFK:=Lib.hid (HF.out _ (List.getElem_mem hlt) wr HB.out)
   have HYES:=Lib.hid (fun h=>idxZ_at (p:=(fun m:LabM=>beatsB m.l q)) hlt HNO.out h)
   have HNEXT:=Lib.hid (show beatsB l[k].l q=false→∀ i (h:i<l.length),i<k+1→beatsB l[i].l q=false from fun h i hi hik=>by
    by_cases e:i=k
    ·subst e;exact h
    ·exact HNO.out i hi (by omega))
   obtain ⟨m,hm⟩:∃ m,m=l[k]:=⟨_,rfl⟩
   rw [← hm] at HX HFK HYES HNEXT
   clear hx1 hm
   go_wp2_with (refine wpList_load_cells rfl 150 _ rfl g1 (o1+k*7) rfl (LabM.cells m) _ HX.out Tryz.underlying150 rfl (by kernel_rfl) ?_)
   refine HFK.out.mono ?_
   rintro e w3 ⟨rfl,hb3⟩
   have HB3:=Lib.hid (below_lift HB.out hb3)
   clear hb3 HFK
   cases hp:beatsB m.l q with
   |true =>
    have HR:=Lib.hid (HYES.out hp)
    clear hp HYES HNEXT
    go_wp2_with fail
    go_ret
    exact ⟨ret_int HR.out.symm,HB3.out⟩
   |false =>
    have HR:=Lib.hid (HNEXT.out hp)
    clear hp HYES HNEXT
    go_wp2_with fail
    go_roundw
    case rel=>exact ⟨k+1,by omega,by go_num,HR.out,HB3.out⟩
    case measure=>simp [intOf];omega
  ·have hlt1:¬ (k:Int)<(l.length:Int):=by omega
   have HR:=Lib.hid (idxZ_no (p:=(fun m:LabM=>beatsB m.l q)) (l:=l) fun j hj=>HNO.out j hj (by omega))
   go_wp2_with fail
   go_ret
   exact ⟨ret_int HR.out.symm,HB.out⟩
set_option maxHeartbeats 4000000 in
theorem labhas_any (l:List LabM) (A:Option Addr) (c:Nat) (gt:Nat) (C:Option Addr) (cc:Nat) (q:LabV) (w:World) (hc:Cells w A (l.flatMap LabM.cells)) (hn:l.length≤c∧c≤maxLen) (hg:w.heap[gt]? = some (.cells (labR C cc q) 150)) :
  Calls Tryz.prog 123 #[.slice A l.length c,.func (Fn.func 124) #[] #[.pointer (some ⟨gt,0,none⟩)]] w fun e w'=>e=.returned (.bool (l.any (fun m:LabM=>beatsB m.l q)))∧Below w.heap.size w w':=by
 have H:=Lib.hid (labidx_any l A c gt C cc q w hc hn hg)
 have HZ:=Lib.hid (idxZ_any (fun m:LabM=>beatsB m.l q) l)
 have hzb:=idxZ_bound (fun m:LabM=>beatsB m.l q) l
 clear hc hn hg
 go_enter Tryz.func123,Tryz.ntmps123
 go_wp2_with fail
 refine H.out.mono ?_
 rintro e w1 ⟨rfl,hb⟩
 have HB:=Lib.hid hb
 clear hb H
 generalize idxZ (fun m:LabM=>beatsB m.l q) l=z at *
 go_wp2_with fail
 go_ret
 exact ⟨ret_bool HZ.out,HB.out⟩
theorem TmAt.keptA {w w':World} {X A:Option Addr} {c c' n Bs sz:Nat} {e:TypeId} {ts:List TimeV} {xs:List Value} (h:TmAt w X c ts) (hk:KpA A w w') (hA:OwnR w Bs e sz A n c' xs) (he:e≠158):TmAt w' X c ts:=by
 rcases hA.form with hf | ⟨g,hf⟩
 ·subst hf
  refine ⟨fun h0=>?_,h.2.1,fun a ha=>?_,h.2.2.2⟩
  ·obtain ⟨b,off,e,hb,hx⟩:=h.1 h0
   refine ⟨b,off,e,Nat.lt_of_lt_of_le hb hk.1,fun j v hv=>?_⟩
   rw [← hx j v hv]
   exact World.cell?_of_block (w:=w) (w':=w') (a:=⟨b,off+j,none⟩) (show w'.heap[b]? = w.heap[b]? from hk.2 b hb (fun _ _ e=>by cases e))
  ·obtain ⟨cur,hc⟩:=h.2.2.1 a ha
   exact ⟨cur,(hk.2 _ (lt_heap hc) (fun _ _ e=>by cases e)).trans hc⟩
 ·subst hf
  obtain ⟨_,_,cur,hcur⟩:=hA.typ
  exact h.keep hcur he hk.1 (fun k hk2 hne=>hk.2 k hk2 (fun off sp e=>hne (by injection e with e;injection e with e _ _;exact e.symm)))
theorem nextP_zero {p:TripV} {l l':LabV} {done:Nat} {b:Bool} {z:Int} (h:nextP p l done b=(some l',z)):z=0:=by
 obtain ⟨dep,hd⟩:∃ d,d=l.ready+(if b then p.t.rest else 0):=⟨_,rfl⟩
 obtain ⟨sin,hs⟩:∃ d,d=if b then 0 else l.since:=⟨_,rfl⟩
 obtain ⟨sd,hsd⟩:∃ d,d=setDep l.sh done b dep:=⟨_,rfl⟩
 cases hst:p.stops[done]? with
 |none =>
  obtain ⟨ga,gm,gz,hg⟩:∃ ga gm gz,goP p.x p.t.prof (placeP p done) p.t.tgt dep=(ga,gm,gz):=⟨_,_,_,rfl⟩
  rw [nextP_end hd hs hsd hst hg] at h
  split at h
  ·cases h
  ·split at h
   ·cases h
   ·split at h
    ·cases h
    ·injection h with _ h;exact h.symm
 |some s =>
  obtain ⟨ga,gm,gz,hg⟩:∃ ga gm gz,goP p.x p.t.prof (placeP p done) s.place dep=(ga,gm,gz):=⟨_,_,_,rfl⟩
  rw [nextP_mid hd hs hsd hst hg] at h
  split at h
  ·cases h
  ·split at h
   ·cases h
   ·split at h
    ·cases h
    ·injection h with _ h;exact h.symm
def GrowL (q:TripM) (k:Nat) (w:World) (L:List LabM):Prop:=∀ m ∈ L,LabAt w m∧Grown q.v k m.l
theorem GrowL.below {q:TripM} {k:Nat} {w w':World} {L:List LabM} (h:GrowL q k w L) (hb:Below w.heap.size w w'):GrowL q k w' L:=fun m hm=>⟨(h m hm).1.below hb,(h m hm).2⟩
def Apt (A:Option Addr) (g:Nat):Prop:=∀ off sp,A≠some ⟨g,off,sp⟩
def CovB (q:TripM) (k:Nat) (l:LabV) (L':List LabM) (bs:List Bool):Prop:=∀ b ∈ bs,∀ l' z,nextP q.v l k b=(some l',z)→∃ m ∈ L',beatsB m.l l'=true
def CovL (q:TripM) (k:Nat) (Ls L':List LabM) (bs:List Bool):Prop:=∀ m ∈ Ls,CovB q k m.l L' bs
theorem CovB.mono {q:TripM} {k:Nat} {l:LabV} {L':List LabM} {bs:List Bool} (h:CovB q k l L' bs) (x:LabM):CovB q k l (L' ++ [x]) bs:=fun b hb l' z hn=>by
 obtain ⟨m,hm,h1⟩:=h b hb l' z hn
 exact ⟨m,by simp [hm],h1⟩
theorem CovL.mono {q:TripM} {k:Nat} {Ls L':List LabM} {bs:List Bool} (h:CovL q k Ls L' bs) (x:LabM):CovL q k Ls (L' ++ [x]) bs:=fun m hm=>(h m hm).mono x
theorem CovB.snoc {q:TripM} {k:Nat} {l:LabV} {L':List LabM} {bs:List Bool} {b:Bool} (h:CovB q k l L' bs) (h1:∀ l' z,nextP q.v l k b=(some l',z)→∃ m ∈ L',beatsB m.l l'=true):CovB q k l L' (bs ++ [b]):=fun c hc l' z hn=>by
 rcases List.mem_append.1 hc with hc | hc
 ·exact h c hc l' z hn
 ·rw [List.mem_singleton.1 hc] at hn
  exact h1 l' z hn
theorem CovL.snoc {q:TripM} {k:Nat} {Ls L':List LabM} {bs:List Bool} {m:LabM} (h:CovL q k Ls L' bs) (h1:CovB q k m.l L' bs):CovL q k (Ls ++ [m]) L' bs:=fun c hc=>by
 rcases List.mem_append.1 hc with hc | hc
 ·exact h c hc
 ·rw [List.mem_singleton.1 hc];exact h1
theorem takeT {α:Type} {l:List α} {k:Nat} (h:k<l.length):l.take (k+1)=l.take k ++ [l[k]]:=by rw [List.take_add_one,List.getElem?_eq_getElem h];rfl
theorem beats_refl (l:LabV):beatsB l l=true:=beatsB_iff.2 ⟨rfl,Int.le_refl _⟩
def Covers (q:TripM) (k:Nat) (L L':List LabM):Prop:=∀ m ∈ L,∀ b,(k<q.r.r.rests.length→q.r.r.rests[k]? = some b)→∀ l' z,nextP q.v m.l k b=(some l',z)→∃ m' ∈ L',beatsB m'.l l'=true
def GrowE (q:TripM) (k:Nat) (L:List LabM) (w:World) (e:Ending) (w':World):Prop:=∃ (A':Option Addr) (c':Nat) (L':List LabM),e=.returned (.slice A' L'.length c')∧OwnR w' w.heap.size 150 7 A' L'.length c' (L'.flatMap LabM.cells)∧GrowL q (k+1) w' L'∧L'.length≤2*L.length∧Covers q k L L'∧Below w.heap.size w w'
def ChsL (r:RouV) (k:Nat) (xs:List Bool):Prop:=xs.length≤2∧(∀ b ∈ xs,k<r.rests.length→r.rests[k]? = some b)∧∀ b,(k<r.rests.length→r.rests[k]? = some b)→b ∈ xs
set_option maxHeartbeats 32000000 in
set_option maxRecDepth 100000 in
theorem dgrow_any (q:TripM) (L:List LabM) (A:Option Addr) (c k:Nat) (w:World) (hq:TripAt w q) (hc:Cells w A (L.flatMap LabM.cells)) (hn:L.length≤c∧c≤maxLen) (hL:GrowL q k w L) (hk:k≤q.stops.length) (hll:L.length≤4096) (h8:q.stops.length≤8) (hT:Tab w) :
  Calls Tryz.prog 69 #[tripA q,.slice A L.length c,.int .i64 k] w (GrowE q k L w):=by
 obtain ⟨k1,k2,k3⟩:=alloc2 w (.cells (tripR q) 84) (.cells #[.bool false,.bool true] 4)
 have HB:=Lib.hid k3
 have HK1:=Lib.hid k1
 have HK2:=Lib.hid k2
 have HQ:=Lib.hid hq
 have HC:=Lib.hid hc
 have HL:=Lib.hid hL
 have HT:=Lib.hid hT
 have HTR:=Lib.hid hq.trip
 have hrl:=hq.r.rl
 unfold maxLen at hn hrl
 clear hq hc hT hL k1 k2 k3
 go_enter Tryz.func69,Tryz.ntmps69
 (try simp only [B_mk])
 go_upto_region 2 with fail
 rw [show (w.alloc (.cells #[.slice q.m.pA q.m.places.length q.m.pc,.slice q.m.aA q.m.arcs.length q.m.ac,.slice q.m.tA q.m.types.length q.m.tc,.slice q.m.oA q.m.ords.length q.m.oc,.slice q.m.xA q.m.apart.length q.m.xc,.slice q.m.bA q.m.before.length q.m.bc,.string (B q.t.t.name),.int .i64 q.t.t.count,.int .i64 q.t.t.frm,.int .i64 q.t.t.tgt,.slice q.t.A q.t.t.cap.length q.t.ca,.int .i64 q.t.t.skills,.int .i64 q.t.t.prof,.int .i64 q.t.t.opn,.int .i64 q.t.t.cls,.int .i64 q.t.t.drive,.int .i64 q.t.t.rest,.int .i64 q.t.t.fixed,.int .i64 q.t.t.mile,.int .i64 q.t.t.tick,.int .i64 q.r.r.kind,.int .i64 q.r.r.start,.slice q.r.A q.r.r.rests.length q.r.ca,.slice q.r.C q.r.r.vis.length q.r.cc,.slice q.A q.stops.length q.c] 84)).alloc (.cells #[.bool false,.bool true] 4)=(w.alloc (.cells (tripR q) 84)).alloc (.cells #[.bool false,.bool true] 4) from rfl]
 generalize (w.alloc (.cells (tripR q) 84)).alloc (.cells #[.bool false,.bool true] 4)=w2 at *
 obtain ⟨g1,hg1⟩:∃ g1,g1=w.heap.size:=⟨_,rfl⟩
 obtain ⟨g2,hg2⟩:∃ g2,g2=w.heap.size+1:=⟨_,rfl⟩
 rw [← hg2] at HK2
 rw [← hg2,← hg1]
 rw [← hg1] at HK1
 clear hg1 hg2
 have x22:=cellsX HK1.out 22 (.slice q.r.A q.r.r.rests.length q.r.ca) rfl
 go_upto_if 21 with (fail)
 go_cut [7] (fun s wx=>∃ (X:Option Addr) (xs:List Bool) (cx:Nat),s=.slice X xs.length cx∧Cells w2 X (boolsP xs)∧(xs.length≤cx∧cx≤maxLen)∧ChsL q.r.r k xs∧wx=w2)
 case first =>
  as_aux_lemma =>
   by_cases hkr:k<q.r.r.rests.length
   ·have hkr1:(k:Int)<(q.r.r.rests.length:Int):=by omega
    obtain ⟨gr,orr,hA1,hgr,hx1⟩:=HQ.out.r.rests (by rw [boolsP_length];omega)
    rw [hA1] at x22
    have HX:=Lib.hid (show Cells w2 (some ⟨gr,orr+k,none⟩) (boolsP [q.r.r.rests[k]]) from fun _=>⟨gr,orr+k,rfl,Nat.lt_of_lt_of_le hgr HB.out.size,fun j v hv=>by
     cases j with
     |zero =>
      injection hv with hv
      subst hv
      exact (HB.out.cell (p:=⟨gr,orr+k,none⟩) hgr).trans (hx1 k _ (boolsP_at _ k hkr))
     |succ j=>cases hv⟩)
    have HCH:=Lib.hid (show ChsL q.r.r k [q.r.r.rests[k]] from ⟨by simp,fun b hb _=>by rw [List.mem_singleton.1 hb];exact List.getElem?_eq_getElem hkr,fun b h=>by have h2:=h hkr;rw [List.getElem?_eq_getElem hkr] at h2;injection h2 with h2;rw [h2];simp⟩)
    have hkc:k+1≤q.r.ca:=by omega
    clear hx1 hA1
    generalize q.r.r.rests[k]=bb at *
    go_wp2_with fail
    go_meet
    exact ⟨_,[bb],q.r.ca - k,by trivial,HX.out,⟨by simp;omega,by unfold maxLen;omega⟩,HCH.out,rfl⟩
   ·have hkr1:¬ (k:Int)<(q.r.r.rests.length:Int):=by omega
    have HX:=Lib.hid (show Cells w2 (some ⟨g2,0,none⟩) (boolsP [false,true]) from fun _=>⟨g2,0,rfl,lt_heap HK2.out,fun j v hv=>by
     obtain ⟨c0,c1⟩:=cells2 HK2.out
     match j,hv with
     |0,hv=>injection hv with hv;subst hv;exact c0
     |1,hv=>injection hv with hv;subst hv;exact c1
     |j+2,hv=>cases hv⟩)
    have HCH:=Lib.hid (show ChsL q.r.r k [false,true] from ⟨by simp,fun b _ h=>absurd h hkr,fun b _=>by cases b <;> simp⟩)
    clear hkr
    go_wp2_with fail
    go_meet
    exact ⟨_,[false,true],2,rfl,HX.out,⟨by simp,by decide⟩,HCH.out,rfl⟩
 case rest =>
  obtain ⟨X,xs,cx,rfl,hcx,hxc,hch,hwc⟩:=hcut
  obtain rfl:=hwc.symm
  have HX:=Lib.hid hcx
  have HCH:=Lib.hid hch.2.1
  have HALL:=Lib.hid hch.2.2
  have hx2:=hch.1
  unfold maxLen at hxc
  clear hcx hch x22 HK2
  go_wp2_with fail
  have hL4:L.length≤4096:=hll
  go_loopw [8,31] (fun o j wr=>∃ (i:Nat) (A':Option Addr) (c':Nat) (L':List LabM),i≤L.length∧j=.int .i64 i∧o=.slice A' L'.length c'∧OwnR wr w2.heap.size 150 7 A' L'.length c' (L'.flatMap LabM.cells)∧GrowL q (k+1) wr L'∧L'.length≤2*i∧CovL q k (L.take i) L' xs∧wr.heap[g1]? = some (.cells (tripR q) 84)∧Below w2.heap.size w2 wr) (fun _ j _=>L.length - (intOf j).toNat)
  case atStart=>exact ⟨0,none,0,[],Nat.zero_le _,rfl,rfl,OwnR.nil _ _ _ _,fun m hm=>absurd hm (by simp),Nat.le_refl _,fun m hm=>absurd hm (by simp),HK1.out,Below.refl _ _⟩
  case round =>
   clear HK1
   obtain ⟨i,A',c',L',hi,rfl,rfl,hown,hgl,hlen,hcov,hr1,hbel⟩:=hrel
   have HCV:=Lib.hid hcov
   clear hcov
   have HO:=Lib.hid hown
   have HGL:=Lib.hid hgl
   have HR1:=Lib.hid hr1
   have HB2:=Lib.hid hbel
   clear hown hgl hr1 hbel
   by_cases hlt:i<L.length
   ·have hlt1:(i:Int)<(L.length:Int):=by omega
    obtain ⟨ga,oa,hA1,hga,hx1⟩:=elemsP LabM.cells_len (by decide) HC.out (by omega)
    have HXA:=Lib.hid (fun j u h=>((below_lift HB.out HB2.out).cell (p:=⟨ga,oa+i*7+j,none⟩) hga).trans (hx1 i hlt j u h))
    have HLM:=Lib.hid (HL.out _ (List.getElem_mem hlt))
    have HTK:=Lib.hid (takeT hlt)
    generalize L[i]=m at *
    obtain ⟨n4,p4⟩:=new_at wr (.cells (labR m.A m.c m.l) 150)
    have HB4:=Lib.hid (below_lift HB2.out n4)
    have HO4:=Lib.hid (HO.out.below n4)
    have HG4:=Lib.hid (HGL.out.below n4)
    have HR14:=Lib.hid (row_keep HR1.out n4)
    have HAP:=Lib.hid (show Apt A' wr.heap.size from fun off sp e=>by
     rcases HO.out.form with hf | ⟨g,hf⟩
     ·rw [hf] at e;cases e
     ·have h2:OwnR wr w2.heap.size 150 7 (some ⟨g,0,none⟩) L'.length c' (L'.flatMap LabM.cells):=by rw [← hf];exact HO.out
      have:=h2.typ.2.1
      rw [hf] at e
      injection e with e
      injection e with e _ _
      omega)
    rw [hA1]
    clear hx1 n4 HO HGL HR1 HB2
    have x0:=HXA.out 0 _ rfl
    have x1:=HXA.out 1 _ rfl
    have x2:=HXA.out 2 _ rfl
    have x3:=HXA.out 3 _ rfl
    have x4:=HXA.out 4 _ rfl
    have x5:=HXA.out 5 _ rfl
    have x6:=HXA.out 6 _ rfl
    rw [Nat.add_zero] at x0
    go_upto_region 8 with fail
    rw [show wr.alloc (.cells #[.int .i64 m.l.ready,.int .i64 m.l.since,.bool m.l.sh.rest,.int .i64 m.l.sh.dep,.slice m.A m.l.sh.times.length m.c,.int .i64 m.l.sh.fin,.int .i64 m.l.sh.miles] 150)=wr.alloc (.cells (labR m.A m.c m.l) 150) from rfl]
    generalize wr.alloc (.cells (labR m.A m.c m.l) 150)=w4 at *
    obtain ⟨g4,hg4⟩:∃ g4,g4=wr.heap.size:=⟨_,rfl⟩
    rw [← hg4] at p4 HAP
    rw [← hg4]
    have HP4:=Lib.hid p4
    clear x0 x1 x2 x3 x4 x5 x6 p4 hg4 HXA
    have HLM4:=Lib.hid (show LabAt w4 m from HLM.out.1.below (below_lift HB.out HB4.out))
    go_wp2_with fail
    go_loopw [8,37] (fun o j wr2=>∃ (i2:Nat) (A2:Option Addr) (c2:Nat) (L2:List LabM),i2≤xs.length∧j=.int .i64 i2∧o=.slice A2 L2.length c2∧OwnR wr2 w2.heap.size 150 7 A2 L2.length c2 (L2.flatMap LabM.cells)∧GrowL q (k+1) wr2 L2∧L2.length≤2*i+i2∧CovL q k (L.take i) L2 xs∧CovB q k m.l L2 (xs.take i2)∧wr2.heap[g1]? = some (.cells (tripR q) 84)∧wr2.heap[g4]? = some (.cells (labR m.A m.c m.l) 150)∧Apt A2 g4∧Below w2.heap.size w2 wr2) (fun _ j _=>xs.length - (intOf j).toNat)
    case atStart=>exact ⟨0,A',c',L',Nat.zero_le _,rfl,rfl,HO4.out,HG4.out,by omega,HCV.out,fun b hb=>absurd hb (by simp),HR14.out,HP4.out,HAP.out,HB4.out⟩
    case round =>
     clear HO4 HG4 HR14 HP4 HAP HB4 HLM4
     obtain ⟨i2,A2,c2,L2,hi2,rfl,rfl,hown,hgl,hlen2,hcv2,hcb2,hr1,hr4,hap,hbel⟩:=hrel
     have HCV2:=Lib.hid hcv2
     have HCB2:=Lib.hid hcb2
     clear hcv2 hcb2
     have HO:=Lib.hid hown
     have HGL:=Lib.hid hgl
     have HR1:=Lib.hid hr1
     have HR4:=Lib.hid hr4
     have HAP:=Lib.hid hap
     have HB2:=Lib.hid hbel
     clear hown hgl hr1 hr4 hap hbel
     by_cases hlt2:i2<xs.length
     ·have hlt3:(i2:Int)<(xs.length:Int):=by omega
      obtain ⟨gb,ob,hA2,hgb,hx2'⟩:=HX.out (by rw [boolsP_length];omega)
      have x0:=(HB2.out.cell (p:=⟨gb,ob+i2,none⟩) hgb).trans (hx2' i2 _ (boolsP_at xs i2 hlt2))
      have HBB:=Lib.hid (HCH.out _ (List.getElem_mem hlt2))
      have HTX:=Lib.hid (takeT hlt2)
      generalize xs[i2]=b at *
      have HNX:=Lib.hid (show Calls Tryz.prog 72 #[tripA q,labA m.A m.c m.l,.int .i64 k,.bool b] wr (NextE q m.l k b wr) from by
       obtain ⟨cs,hcs⟩:=HLM.out.2.ok HTR.out (show k≤q.v.stops.length+1 from Nat.le_succ_of_le hk)
       exact dnext_any q m k b cs wr (HQ.out.below (below_lift HB.out HB2.out)) (HLM.out.1.below (below_lift HB.out HB2.out)) hcs hk h8 (HT.out.below (below_lift HB.out HB2.out)))
      unfold NextE at HNX
      rw [hA2]
      clear hx2' hA2
      go_wp2_with (first | (refine wpList_load_row rfl 84 _ rfl g1 rfl 84 _ _ _ HR1.out Tryz.underlying84 rfl (by kernel_rfl) ?_) | (refine wpList_load_row rfl 150 _ rfl g4 rfl 150 _ _ _ HR4.out Tryz.underlying150 rfl (by kernel_rfl) ?_))
      refine HNX.out.mono ?_
      rintro e w5 ⟨he,hb5⟩
      have HB5:=Lib.hid (below_lift HB2.out hb5)
      have HO5:=Lib.hid (HO.out.below hb5)
      have HG5:=Lib.hid (HGL.out.below hb5)
      have HR45:=Lib.hid (row_keep HR4.out hb5)
      have HR15:=Lib.hid (row_keep HR1.out hb5)
      clear hb5 x0 HNX HR4 HR1 HB2 HO HGL
      rcases hnx:nextP q.v m.l k b with ⟨_ | l',z⟩
      ·rw [hnx] at he
       obtain ⟨hz,rfl⟩:=he
       have hzb:(z == 0)=false:=by rw [beq_eq_false_iff_ne];exact hz
       obtain ⟨n6,p6⟩:=new_at w5 (.cells (labR none 0 labZ) 150)
       have HB6:=Lib.hid (below_lift HB5.out n6)
       have HO6:=Lib.hid (HO5.out.below n6)
       have HG6:=Lib.hid (HG5.out.below n6)
       have HR46:=Lib.hid (row_keep HR45.out n6)
       have HR16:=Lib.hid (row_keep HR15.out n6)
       have HCS:=Lib.hid (show CovB q k m.l L2 (xs.take (i2+1)) from by rw [HTX.out];exact HCB2.out.snoc (fun l' z h=>by rw [hnx] at h;cases h))
       clear n6 p6 hnx hz HB5 HO5 HG5 HR45 HR15
       go_upto_region 12 with fail
       rw [show w5.alloc (.cells #[.int .i64 labZ.ready,.int .i64 labZ.since,.bool labZ.sh.rest,.int .i64 labZ.sh.dep,.slice none labZ.sh.times.length 0,.int .i64 labZ.sh.fin,.int .i64 labZ.sh.miles] 150)=w5.alloc (.cells (labR none 0 labZ) 150) from rfl]
       generalize w5.alloc (.cells (labR none 0 labZ) 150)=w6 at *
       go_wp2_with fail
       go_roundw
       case rel=>exact ⟨i2+1,A2,c2,L2,by omega,by go_num,rfl,HO6.out,HG6.out,by omega,HCV2.out,HCS.out,HR16.out,HR46.out,HAP.out,HB6.out⟩
       case measure=>simp [intOf];omega
      ·rw [hnx] at he
       obtain ⟨A3,c3,rfl,htm3⟩:=he
       have HGR:=Lib.hid (show Grown q.v (k+1) l' from HLM.out.2.next HBB.out (by rw [hnx];rw [nextP_zero hnx]))
       obtain ⟨n6,p6⟩:=new_at w5 (.cells (labR A3 c3 l') 150)
       have HB6:=Lib.hid (below_lift HB5.out n6)
       have HO6:=Lib.hid (HO5.out.below n6)
       have HG6:=Lib.hid (HG5.out.below n6)
       have HR46:=Lib.hid (row_keep HR45.out n6)
       have HR16:=Lib.hid (row_keep HR15.out n6)
       have HTM6:=Lib.hid (htm3.below n6)
       have HSN:=Lib.hid (show ∀ L3,CovB q k m.l L3 (xs.take i2)→(∃ m' ∈ L3,beatsB m'.l l'=true)→CovB q k m.l L3 (xs.take (i2+1)) from fun L3 h1 h2=>by rw [HTX.out];exact h1.snoc (fun l2 z2 h=>by rw [hnx] at h;injection h with h _;injection h with h;rw [← h];exact h2))
       clear n6 hnx htm3 HB5 HO5 HG5 HR45 HR15
       go_upto_region 12 with fail
       rw [show w5.alloc (.cells #[.int .i64 l'.ready,.int .i64 l'.since,.bool l'.sh.rest,.int .i64 l'.sh.dep,.slice A3 l'.sh.times.length c3,.int .i64 l'.sh.fin,.int .i64 l'.sh.miles] 150)=w5.alloc (.cells (labR A3 c3 l') 150) from rfl]
       generalize w5.alloc (.cells (labR A3 c3 l') 150)=w6 at *
       obtain ⟨g6,hg6⟩:∃ g6,g6=w5.heap.size:=⟨_,rfl⟩
       rw [← hg6] at p6
       rw [← hg6]
       have HP6:=Lib.hid p6
       clear p6 hg6
       have HHS:=Lib.hid (labhas_any L2 A2 c2 g6 A3 c3 l' w6 HO6.out.cells HO6.out.cap HP6.out)
       go_wp2_with fail
       refine HHS.out.mono ?_
       rintro e w7 ⟨rfl,hb7⟩
       have HB7:=Lib.hid (below_lift HB6.out hb7)
       have HO7:=Lib.hid (HO6.out.below hb7)
       have HG7:=Lib.hid (HG6.out.below hb7)
       have HR47:=Lib.hid (row_keep HR46.out hb7)
       have HR17:=Lib.hid (row_keep HR16.out hb7)
       have HTM7:=Lib.hid (HTM6.out.below hb7)
       have HP7:=Lib.hid (row_keep HP6.out hb7)
       clear hb7 HB6 HO6 HG6 HR46 HR16 HTM6 HP6 HHS
       cases hbb:L2.any (fun m=>beatsB m.l l') with
       |true =>
        have HCS:=Lib.hid (HSN.out L2 HCB2.out (by obtain ⟨m',h1,h2⟩:=List.any_eq_true.1 hbb;exact ⟨m',h1,h2⟩))
        clear hbb
        go_wp2_with fail
        go_roundw
        case rel=>exact ⟨i2+1,A2,c2,L2,by omega,by go_num,rfl,HO7.out,HG7.out,by omega,HCV2.out,HCS.out,HR17.out,HR47.out,HAP.out,HB7.out⟩
        case measure=>simp [intOf];omega
       |false =>
        obtain ⟨y0,y1,y2,y3,y4,y5,y6⟩:=cells7 HP7.out
        have hbw:=HB7.out.size
        clear hbb
        go_wp2_with (at_builtin;refine wp_appN el_lab rfl _ _ rfl w2.heap.size A2 L2.length c2 (L2.flatMap LabM.cells) w7 #[.int .i64 l'.ready,.int .i64 l'.since,.bool l'.sh.rest,.int .i64 l'.sh.dep,.slice A3 l'.sh.times.length c3,.int .i64 l'.sh.fin,.int .i64 l'.sh.miles] rfl HO7.out rfl rfl (by intro u hu;simp at hu;rcases hu with rfl | rfl | rfl | rfl | rfl | rfl | rfl <;> rfl) (by unfold maxLen;omega) (by omega) hbw ?_;intro A8 c8 w8 hown8 hb8 hkp8 hwh8)
        clear y0 y1 y2 y3 y4 y5 y6
        go_roundw
        case rel =>
         refine ⟨i2+1,A8,c8,L2 ++ [⟨A3,c3,l'⟩],by omega,by go_num,by rw [snoc_len],?_,?_,by rw [snoc_len];omega,HCV2.out.mono _,HSN.out _ (HCB2.out.mono _) ⟨⟨A3,c3,l'⟩,by simp,beats_refl l'⟩,hkp8.row HR17.out (HO7.out.far HR17.out (by decide)),hkp8.row HR47.out HAP.out,?_,?_⟩
         ·rw [snoc_len,← flat_snoc]
          exact hown8
         ·intro mm hmm
          rcases List.mem_append.1 hmm with h1 | h1
          ·exact ⟨TmAt.keptA (HG7.out mm h1).1 hkp8 HO7.out (by decide),(HG7.out mm h1).2⟩
          ·rw [List.mem_singleton.1 h1]
           exact ⟨TmAt.keptA HTM7.out hkp8 HO7.out (by decide),HGR.out⟩
         ·rcases hwh8 with h1 | ⟨g,h1,h2⟩
          ·rw [h1];exact HAP.out
          ·intro off sp e
           rw [h1] at e
           injection e with e
           injection e with e _ _
           have:=lt_heap HR47.out
           omega
         ·exact HB7.out.trans hb8
        case measure=>simp [intOf];omega
     ·have hlt3:¬ (i2:Int)<(xs.length:Int):=by omega
      have HCN:=Lib.hid (show CovL q k (L.take (i+1)) L2 xs from by rw [HTK.out];exact HCV2.out.snoc (by have h:=HCB2.out;rw [List.take_of_length_le (by omega)] at h;exact h))
      go_wp2_with fail
      go_roundw
      case rel=>exact ⟨i+1,A2,c2,L2,by omega,by go_num,rfl,HO.out,HGL.out,by omega,HCN.out,HR1.out,HB2.out⟩
      case measure=>simp [intOf];omega
   ·have hlt1:¬ (i:Int)<(L.length:Int):=by omega
    have HCO:=Lib.hid (show Covers q k L L' from fun m hm b hb l' z hn=>by have h:=HCV.out;rw [List.take_of_length_le (by omega)] at h;exact h m hm b (HALL.out b hb) l' z hn)
    go_wp2_with fail
    go_ret
    exact ⟨A',c',L',rfl,HO.out.mono HB.out.size,HGL.out,by omega,HCO.out,below_lift HB.out HB2.out⟩
end Go.Proofs.YtjcekdiocliddaaGreatDoor

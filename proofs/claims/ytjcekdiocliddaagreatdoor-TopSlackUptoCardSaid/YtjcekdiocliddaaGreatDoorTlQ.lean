/- drive.Best. (Printed by wip/tk/mkTlQ.py.) -/
import Derived.Test.YtjcekdiocliddaaGreatDoorG79
namespace Go.Proofs.YtjcekdiocliddaaGreatDoor
open Go.RowKit Num Txt Pf Tk
set_option linter.unusedVariables false
attribute [local go_sem] B_size B_get B_toList B_mk B_extract B_append
def Agr (rests cs:List Bool):Prop:=∀ j,j<cs.length→j<rests.length→cs[j]? = rests[j]?
def NoRun (x:InsV) (r:RouV):Prop:=∀ p,PlanIs x r p→∀ cs,cs.length=p.stops.length+1→r.rests.length≤cs.length→Agr r.rests cs→∀ l z,runP p cs≠(some l,z)
def MinS (p:TripV) (s:SheetV):Prop:=∀ cs,cs.length=p.stops.length+1→Agr p.r.rests cs→∀ l z,runP p cs=(some l,z)→s.fin≤l.sh.fin
def CompL (p:TripV) (k:Nat) (L:List LabM):Prop:=∀ cs,cs.length=k→Agr p.r.rests cs→∀ l z,runP p cs=(some l,z)→∃ m ∈ L,beatsB m.l l=true
theorem comp0 (q:TripM):CompL q.v 0 [⟨none,0,lab0 q.v⟩]:=fun cs hc _ l z hr=>by
 have:cs=[]:=List.length_eq_zero_iff.1 hc
 subst this
 unfold runP at hr
 rw [runFrom] at hr
 injection hr with hr _
 injection hr with hr
 rw [← hr]
 exact ⟨_,List.mem_singleton.2 rfl,beats_refl _⟩
theorem next_beats {p:TripV} {m l l':LabV} {k:Nat} {b:Bool} {z:Int} (hb:beatsB m l=true) (hn:nextP p l k b=(some l',z)):∃ l2 z2,nextP p m k b=(some l2,z2)∧beatsB l2 l'=true:=by
 obtain ⟨h1,h2⟩:=beatsB_iff.1 hb
 have h3:(if b then 0 else m.since)≤(if b then 0 else l.since):=by split <;> omega
 unfold nextP at hn ⊢
 simp only at hn ⊢
 rw [h1]
 generalize l.ready+(if b then p.t.rest else 0)=dep at *
 generalize (if b then 0 else m.since)=s1 at *
 generalize (if b then 0 else l.since)=s2 at *
 cases hst:p.stops[k]? with
 |none =>
  rw [hst] at hn
  simp only at hn ⊢
  generalize goP p.x p.t.prof (placeP p k) p.t.tgt dep=g at *
  split at hn
  ·cases hn
  rename_i g1
  split at hn
  ·cases hn
  rename_i g2
  split at hn
  ·cases hn
  rename_i g3
  injection hn with hn _
  injection hn with hn
  subst hn
  rw [if_neg g1,if_neg g2,if_neg (by omega)]
  exact ⟨_,_,rfl,beatsB_iff.2 ⟨rfl,by simp only;omega⟩⟩
 |some s =>
  rw [hst] at hn
  simp only at hn ⊢
  generalize goP p.x p.t.prof (placeP p k) s.place dep=g at *
  split at hn
  ·cases hn
  rename_i g1
  split at hn
  ·cases hn
  rename_i g2
  split at hn
  ·cases hn
  rename_i g3
  injection hn with hn _
  injection hn with hn
  subst hn
  rw [if_neg g1,if_neg g2,if_neg (by omega)]
  exact ⟨_,_,rfl,beatsB_iff.2 ⟨rfl,by simp only;omega⟩⟩
theorem beats_trans {a b c:LabV} (h1:beatsB a b=true) (h2:beatsB b c=true):beatsB a c=true:=by
 have h3:=beatsB_iff.1 h1
 have h4:=beatsB_iff.1 h2
 exact beatsB_iff.2 ⟨h3.1.trans h4.1,by omega⟩
theorem comp_step {q:TripM} {k:Nat} {L L':List LabM} (h:CompL q.v k L) (hc:Covers q k L L'):CompL q.v (k+1) L':=fun cs hl ha l z hr=>by
 obtain ⟨ds,b,rfl⟩:∃ ds b,cs=ds ++ [b]:=⟨cs.dropLast,cs.getLast (by intro e;rw [e] at hl;cases hl),(List.dropLast_concat_getLast _).symm⟩
 have hd:ds.length=k:=by rw [List.length_append] at hl;simpa using hl
 unfold runP at hr
 rw [run_snoc,Nat.zero_add,hd] at hr
 cases hq:runFrom q.v (lab0 q.v) 0 ds with
 |mk o e1 =>
  rw [hq] at hr
  cases o with
  |none=>simp at hr
  |some l1 =>
   simp only at hr
   obtain ⟨m1,hm1,hb1⟩:=h ds hd (fun j hj hjr=>by
    have:=ha j (by rw [List.length_append];omega) hjr
    rw [List.getElem?_append_left hj] at this
    exact this) l1 e1 hq
   cases hx:nextP q.v l1 k b with
   |mk o2 e2 =>
    rw [hx] at hr
    cases o2 with
    |none=>simp at hr
    |some l2 =>
     simp only at hr
     injection hr with hr _
     injection hr with hr
     subst hr
     obtain ⟨l3,z3,hn3,hb3⟩:=next_beats hb1 hx
     obtain ⟨m',hm',hb'⟩:=hc m1 hm1 b (fun hk=>by
      have:=ha k (by rw [List.length_append,hd];simp) hk
      rw [List.getElem?_append_right (by omega),hd,Nat.sub_self] at this
      exact this.symm) l3 z3 hn3
     exact ⟨m',hm',beats_trans hb' hb3⟩
theorem run_fin {p:TripV} {cs:List Bool} {l:LabV} {z:Int} (hc:cs.length=p.stops.length+1) (hr:runP p cs=(some l,z)):l.ready=l.sh.fin:=by
 have h:=(run_L _ cs l z hc (Nat.le_refl _) hr).ready
 rw [if_neg (by omega)] at h
 have e:p.stops[p.stops.length+1 - 1]? = none:=List.getElem?_eq_none (by omega)
 rw [e] at h
 exact h
theorem min_of {q:TripM} {k:Nat} {L:List LabM} {l:LabV} {w:World} (hk:k=q.v.stops.length+1) (hC:CompL q.v k L) (hG:GrowL q k w L) (hm:∀ j (h:j<L.length),l.sh.fin≤L[j].l.sh.fin):MinS q.v l.sh:=fun cs hc ha l2 z hr=>by
 subst hk
 obtain ⟨m,hmL,hb⟩:=hC cs hc ha l2 z hr
 obtain ⟨ds,hd,_,hrun⟩:=(hG m hmL).2
 have e1:=run_fin hd hrun
 have e2:=run_fin hc hr
 have e3:=(beatsB_iff.1 hb).1
 obtain ⟨j,hj,rfl⟩:=List.getElem_of_mem hmL
 have:=hm j hj
 omega
theorem norun_of {q:TripM} {k:Nat} (hk:k=q.v.stops.length+1) (hC:CompL q.v k []) (hq:PlanIs q.m.v q.r.r q.v):NoRun q.m.v q.r.r:=fun p hp cs hc _ ha l z hr=>by
 have:=PlanIs.one hp hq
 subst this
 subst hk
 obtain ⟨m,hm,_⟩:=hC cs hc ha l z hr
 cases hm
def BestE (m:InsM) (r:RouM) (w:World) (e:Ending) (w':World):Prop:=∃ (A:Option Addr) (c:Nat) (s:SheetV) (k:Int),e=.returned (.tuple #[sheetA A c s,.int .i64 k])∧TmAt w' A c s.times∧(k=0→∃ p,PlanIs m.v r.r p∧BestS p s∧MinS p s)∧(k≠0→NoRun m.v r.r)∧Below w.heap.size w w'
theorem BestE.no {m:InsM} {r:RouM} {w w':World} {k:Int} (hk:k≠0) (hn:NoRun m.v r.r) (hb:Below w.heap.size w w'):BestE m r w (.returned (.tuple #[sheetA none 0 shZ,.int .i64 k])) w':=⟨none,0,shZ,k,rfl,TmAt.nil _,fun h=>absurd h hk,fun _=>hn,hb⟩
theorem BestE.yes {m:InsM} {r:RouM} {w w':World} {A:Option Addr} {c:Nat} {s:SheetV} {p:TripV} (ht:TmAt w' A c s.times) (hp:PlanIs m.v r.r p) (hs:BestS p s) (hm:MinS p s) (hb:Below w.heap.size w w'):BestE m r w (.returned (.tuple #[sheetA A c s,.int .i64 0])) w':=⟨A,c,s,0,rfl,ht,fun _=>⟨p,hp,hs,hm⟩,fun h=>absurd rfl h,hb⟩
theorem bool_infoT:(Tryz.prog.info? 4).map (fun i=>(i.zero,i.size,i.bytes))=some (some (.bool false),1,1):=by kernel_rfl
theorem el_boolT:Elem Tryz.prog 31 4 (.bool false) 1:=⟨Tryz.underlying31,info_parts bool_infoT,rfl⟩
theorem own_row {w:World} {Bs g n:Nat} {e:TypeId} {xs:List Value} (h:OwnS w Bs e (some ⟨g,0,none⟩) n n xs):w.heap[g]? = some (.cells xs.toArray e):=by
 rcases h.2 with ⟨hv,_⟩ | ⟨g',cap,cur,hv,hb,hg,hnc,hcm,hcs,htake⟩
 ·injection hv with hv _ _;cases hv
 ·injection hv with hv _ hc
  injection hv with hv
  injection hv with hv _ _
  subst hv hc
  rw [hg]
  have:cur.toList=xs:=by rw [← htake,List.take_of_length_le (by rw [Array.length_toList,hcs];exact Nat.le_refl _)]
  rw [← this]
theorem runFrom_zero (p:TripV):∀ (bs:List Bool) (l:LabV) (k:Nat) (l':LabV) (z:Int),runFrom p l k bs=(some l',z)→z=0
 |[],l,k,l',z,h=>by rw [runFrom] at h;injection h with _ h;exact h.symm
 |b :: bs,l,k,l',z,h=>by
  rw [runFrom] at h
  rcases h2:nextP p l k b with ⟨_ | l2,z2⟩
  ·rw [h2] at h;cases h
  ·rw [h2] at h;exact runFrom_zero p bs l2 (k+1) l' z h
theorem boolsP_app (a b:List Bool):boolsP (a ++ b)=boolsP a ++ boolsP b:=by simp [boolsP]
set_option maxHeartbeats 32000000 in
set_option maxRecDepth 100000 in
theorem dbest_any (m:InsM) (r:RouM) (w:World) (hm:InsAt w m) (hok:InsOK m.v) (hr:RouAt w r) (hvl:r.r.vis.length≤8) (hT:Tab w) :
  Calls Tryz.prog 22 #[insA m,rouA r] w (BestE m r w):=by
 obtain ⟨k1,k2,k3,k4⟩:=alloc3 w (.cells (insQ m) 30) (.cells (rouR r) 34) (.cells (sheetQ none 0 shZ) 39)
 have HB:=Lib.hid k4
 have HK1:=Lib.hid k1
 have HK2:=Lib.hid k2
 have HK3:=Lib.hid k3
 have HM:=Lib.hid hm
 have HO:=Lib.hid hok
 have HR:=Lib.hid hr
 have HT:=Lib.hid hT
 have hrl:=hr.rl
 unfold maxLen at hrl
 clear hm hok hr hT k1 k2 k3 k4
 go_enter Tryz.func22,Tryz.ntmps22
 (try simp only [B_mk])
 go_upto_region 1 with fail
 rw [show ((w.alloc (.cells #[.slice m.pA m.places.length m.pc,.slice m.aA m.arcs.length m.ac,.slice m.tA m.types.length m.tc,.slice m.oA m.ords.length m.oc,.slice m.xA m.apart.length m.xc,.slice m.bA m.before.length m.bc] 30)).alloc (.cells #[.int .i64 r.r.kind,.int .i64 r.r.start,.slice r.A r.r.rests.length r.ca,.slice r.C r.r.vis.length r.cc] 34)).alloc (.cells #[.bool false,.int .i64 0,.slice none 0 0,.int .i64 0,.int .i64 0] 39)=((w.alloc (.cells (insQ m) 30)).alloc (.cells (rouR r) 34)).alloc (.cells (sheetQ none 0 shZ) 39) from rfl]
 generalize ((w.alloc (.cells (insQ m) 30)).alloc (.cells (rouR r) 34)).alloc (.cells (sheetQ none 0 shZ) 39)=w3 at *
 obtain ⟨g1,hg1⟩:∃ g1,g1=w.heap.size:=⟨_,rfl⟩
 obtain ⟨g2,hg2⟩:∃ g2,g2=w.heap.size+1:=⟨_,rfl⟩
 obtain ⟨g3,hg3⟩:∃ g3,g3=w.heap.size+1+1:=⟨_,rfl⟩
 rw [← hg3] at HK3
 rw [← hg3,← hg2,← hg1]
 rw [← hg2] at HK2
 rw [← hg1] at HK1
 have HG:=Lib.hid (show w.heap.size≤g3 by omega)
 clear hg1 hg2 hg3
 have HPL:=Lib.hid (dplan_any m r w3 (HM.out.below HB.out) HO.out (HR.out.below HB.out) hvl)
 go_wp2_with (first | (refine wpList_load_row rfl 30 _ rfl g1 rfl 30 _ _ _ HK1.out Tryz.underlying30 rfl (by kernel_rfl) ?_) | (refine wpList_load_row rfl 34 _ rfl g2 rfl 34 _ _ _ HK2.out Tryz.underlying34 rfl (by kernel_rfl) ?_))
 refine HPL.out.mono ?_
 rintro e w4 ⟨q,ok,rfl,hb4,hqy,hqn⟩
 have hqa:∀ w',Below w4.heap.size w4 w'→ok=true→TripAt w' q∧q.m=m∧q.r=r:=fun w' hb h=>⟨(hqy h).1.below hb,(hqy h).2⟩
 have HQA:=Lib.hid hqa
 have HQN:=Lib.hid hqn
 obtain ⟨p5,n5⟩:=new_set w4 #[.slice none 0 0,.slice none 0 0,.slice none 0 0,.slice none 0 0,.slice none 0 0,.slice none 0 0,.string (B []),.int .i64 0,.int .i64 0,.int .i64 0,.slice none 0 0,.int .i64 0,.int .i64 0,.int .i64 0,.int .i64 0,.int .i64 0,.int .i64 0,.int .i64 0,.int .i64 0,.int .i64 0,.int .i64 0,.int .i64 0,.slice none 0 0,.slice none 0 0,.slice none 0 0] (tripR q) 84
 have HB5:=Lib.hid (below_lift (below_lift HB.out hb4) n5)
 have HN5:=Lib.hid n5
 have HR25:=Lib.hid (row_keep (row_keep HK2.out hb4) n5)
 have HR35:=Lib.hid (row_keep (row_keep HK3.out hb4) n5)
 clear hb4 hqy hqn n5 HB HK1 HK2 HK3 HPL hqa
 go_upto_region 2 with (refine wpList_store_row rfl 84 _ _ rfl w4.heap.size (tripR q) rfl rfl 84 _ (new_at w4 _).2 (by kernel_rfl) rfl (by kernel_rfl) ?_)
 generalize (w4.alloc (.cells #[.slice none 0 0,.slice none 0 0,.slice none 0 0,.slice none 0 0,.slice none 0 0,.slice none 0 0,.string (B []),.int .i64 0,.int .i64 0,.int .i64 0,.slice none 0 0,.int .i64 0,.int .i64 0,.int .i64 0,.int .i64 0,.int .i64 0,.int .i64 0,.int .i64 0,.int .i64 0,.int .i64 0,.int .i64 0,.int .i64 0,.slice none 0 0,.slice none 0 0,.slice none 0 0] 84)).setRow w4.heap.size (tripR q)=w5 at *
 obtain ⟨g6,hg6⟩:∃ g6,g6=w4.heap.size:=⟨_,rfl⟩
 rw [← hg6] at p5
 rw [← hg6]
 have HR65:=Lib.hid p5
 clear p5 hg6
 have y3:=cellsX HR25.out 3 (.slice r.C r.r.vis.length r.cc) rfl
 have y2:=cellsX HR25.out 2 (.slice r.A r.r.rests.length r.ca) rfl
 obtain ⟨n,hn⟩:∃ n,n=r.r.vis.length+1:=⟨_,rfl⟩
 have hn9:n≤9∧1≤n:=by omega
 have hni:(r.r.vis.length:Int)+1=(n:Int):=by omega
 have HNI:=Lib.hid hni
 have HN:=Lib.hid hn
 clear hni hn
 go_upto_region 3 with fail
 try rw [HNI.out]
 cases ok with
 |false =>
  have HS:=Lib.hid (row_set (sheetQ none 0 shZ) HR35.out HB5.out HG.out)
  go_wp2_with (refine wpList_store_row rfl 39 _ _ rfl g3 (sheetQ none 0 shZ) rfl rfl 39 _ HR35.out (by kernel_rfl) rfl (by kernel_rfl) ?_)
  refine bodyPost_ret (res_row rfl (ld_sheet HS.out.1) rfl rfl) rfl ?_
  exact BestE.no (by decide) (fun p hp=>absurd hp (HQN.out (by first | rfl | trivial) p)) HS.out.2
 |true =>
  obtain ⟨hqt,rfl,rfl⟩:=HQA.out w5 HN5.out rfl
  have HQ:=Lib.hid hqt
  have hsl:q.stops.length=q.r.r.vis.length:=hqt.is.len
  have HSL:=Lib.hid hsl
  have HTR:=Lib.hid hqt.trip
  clear HQA HQN HN5 hqt hsl
  by_cases hlen:n<q.r.r.rests.length
  ·have hlen1:(n:Int)<(q.r.r.rests.length:Int):=by omega
   have HS:=Lib.hid (row_set (sheetQ none 0 shZ) HR35.out HB5.out HG.out)
   go_wp2_with (refine wpList_store_row rfl 39 _ _ rfl g3 (sheetQ none 0 shZ) rfl rfl 39 _ HR35.out (by kernel_rfl) rfl (by kernel_rfl) ?_)
   refine bodyPost_ret (res_row rfl (ld_sheet HS.out.1) rfl rfl) rfl ?_
   exact BestE.no (by decide) (fun p hp cs hc hl=>by
    have e:=PlanIs.one hp HQ.out.is
    subst e
    have h1:=HSL.out
    have h2:=HN.out
    have h3:cs.length=q.stops.length+1:=hc
    omega) HS.out.2
  ·have hlen1:¬ (n:Int)<(q.r.r.rests.length:Int):=by omega
   have HBG:=Lib.hid (dbegin_any q w5)
   go_upto_region 5 with fail
   clear y3 y2
   go_wp2_with (refine wpList_load_row rfl 84 _ rfl g6 rfl 84 _ _ _ HR65.out Tryz.underlying84 rfl (by kernel_rfl) ?_)
   refine HBG.out.mono ?_
   rintro e w6 ⟨rfl,hb6⟩
   obtain ⟨n7,p7⟩:=new_at w6 (.cells (labR none 0 (lab0 q.v)) 150)
   have HB7:=Lib.hid (below_lift (below_lift HB5.out hb6) n7)
   have HR27:=Lib.hid (row_keep (row_keep HR25.out hb6) n7)
   have HR37:=Lib.hid (row_keep (row_keep HR35.out hb6) n7)
   have HR67:=Lib.hid (row_keep (row_keep HR65.out hb6) n7)
   have HQ7:=Lib.hid ((HQ.out.below hb6).below n7)
   clear hb6 n7 HB5 HR25 HR35 HR65 HQ HBG
   go_upto_region 7 with fail
   rw [show w6.alloc (.cells #[.int .i64 (lab0 q.v).ready,.int .i64 (lab0 q.v).since,.bool (lab0 q.v).sh.rest,.int .i64 (lab0 q.v).sh.dep,.slice none (lab0 q.v).sh.times.length 0,.int .i64 (lab0 q.v).sh.fin,.int .i64 (lab0 q.v).sh.miles] 150)=w6.alloc (.cells (labR none 0 (lab0 q.v)) 150) from rfl]
   generalize w6.alloc (.cells (labR none 0 (lab0 q.v)) 150)=w7 at *
   obtain ⟨gl,hgl⟩:∃ gl,gl=w6.heap.size:=⟨_,rfl⟩
   rw [← hgl] at p7
   rw [← hgl]
   have HC0:=Lib.hid (show Cells w7 (some ⟨gl,0,none⟩) ([(⟨none,0,lab0 q.v⟩:LabM)].flatMap LabM.cells) from fun _=>⟨gl,0,rfl,lt_heap p7,fun j v hv=>by rw [Nat.zero_add];exact cellsX p7 j v (by simpa [LabM.cells,labR] using hv)⟩)
   clear p7 hgl
   go_loopw [9,10,39] (fun s _ j wr=>∃ (k:Nat) (A:Option Addr) (c:Nat) (L:List LabM),k≤n∧j=.int .i64 k∧s=.slice A L.length c∧Cells wr A (L.flatMap LabM.cells)∧(L.length≤c∧c≤maxLen)∧GrowL q k wr L∧L.length≤2 ^ k∧CompL q.v k L∧wr.heap[g6]? = some (.cells (tripR q) 84)∧wr.heap[g2]? = some (.cells (rouR q.r) 34)∧wr.heap[g3]? = some (.cells (sheetQ none 0 shZ) 39)∧TripAt wr q∧Below w.heap.size w wr) (fun _ _ j _=>n - (intOf j).toNat)
   case atStart=>exact ⟨0,some ⟨gl,0,none⟩,1,[⟨none,0,lab0 q.v⟩],Nat.zero_le _,rfl,rfl,HC0.out,⟨Nat.le_refl _,by decide⟩,fun m hm=>by rw [List.mem_singleton.1 hm];exact ⟨TmAt.nil _,grown0 _⟩,Nat.le_refl _,comp0 q,HR67.out,HR27.out,HR37.out,HQ7.out,HB7.out⟩
   case round =>
    clear HC0 HR67 HR27 HR37 HQ7 HB7
    obtain ⟨k,A,c,L,hk,rfl,rfl,hca,hcc,hgl,hln,hcl,hr6,hr2,hr3,hqa,hbel⟩:=hrel
    have HCL:=Lib.hid hcl
    clear hcl
    have HCA:=Lib.hid hca
    have HCC:=Lib.hid hcc
    have HGL:=Lib.hid hgl
    have HR6:=Lib.hid hr6
    have HR2:=Lib.hid hr2
    have HR3:=Lib.hid hr3
    have HQ:=Lib.hid hqa
    have HB:=Lib.hid hbel
    have HLN:=Lib.hid hln
    have hl5:L.length≤512:=Nat.le_trans hln (Nat.pow_le_pow_right (by decide) (show k≤9 by omega))
    unfold maxLen at hcc
    clear hca hgl hr6 hr2 hr3 hqa hbel hln
    by_cases hlt:k<n
    ·have hlt1:(k:Int)<(n:Int):=by omega
     have HGW:=Lib.hid (dgrow_any q L A c k wr HQ.out HCA.out HCC.out HGL.out (by have:=HSL.out;have:=HN.out;omega) (by omega) (by have:=HSL.out;omega) (HT.out.below HB.out))
     go_wp2_with (refine wpList_load_row rfl 84 _ rfl g6 rfl 84 _ _ _ HR6.out Tryz.underlying84 rfl (by kernel_rfl) ?_)
     refine HGW.out.mono ?_
     rintro e w8 ⟨A',c',L',rfl,hown,hgl',hln',hcv,hb8⟩
     have HCN:=Lib.hid (comp_step HCL.out hcv)
     clear hcv
     have HC8:=Lib.hid hown.cells
     have HP8:=Lib.hid hown.cap
     have HG8:=Lib.hid hgl'
     have HL8:=Lib.hid hln'
     have HB8:=Lib.hid (below_lift HB.out hb8)
     have HR68:=Lib.hid (row_keep HR6.out hb8)
     have HR28:=Lib.hid (row_keep HR2.out hb8)
     have HR38:=Lib.hid (row_keep HR3.out hb8)
     have HQ8:=Lib.hid (HQ.out.below hb8)
     clear hown hgl' hln' hb8
     go_wp2_with fail
     go_roundw
     case rel=>exact ⟨k+1,A',c',L',by omega,by go_num,rfl,HC8.out,HP8.out,HG8.out,by rw [Nat.pow_succ];have h1:=HLN.out;have h2:=HL8.out;omega,HCN.out,HR68.out,HR28.out,HR38.out,HQ8.out,HB8.out⟩
     case measure=>simp [intOf];omega
    ·have hlt1:¬ (k:Int)<(n:Int):=by omega
     have hkn:k=n:=by omega
     subst hkn
     have hks:k=q.v.stops.length+1:=by have h1:=HSL.out;have h2:=HN.out;show k=q.stops.length+1;omega
     have HKS:=Lib.hid hks
     clear hks hk hlt hlt1 HNI
     by_cases h0:L.length=0
     ·have h0b:((L.length:Int) == 0)=true:=int_bt (by omega)
      have HNR:=Lib.hid (show NoRun q.m.v q.r.r from norun_of (k:=k) HKS.out (by have h:=HCL.out;rw [List.length_eq_zero_iff.1 h0] at h;exact h) HQ.out.is)
      have HAB:=Lib.hid h0b
      go_upto_region 13 with (refine wp_mkn el_boolT rfl _ _ rfl wr.heap.size _ .i64 .i64 _ _ k rfl rfl rfl rfl (by omega) (by unfold maxLen;omega) (Nat.le_refl _) rfl ?_;intro X0 w1 hown0 hb1)
      obtain ⟨gx,hX0,hgx,_⟩:=hown0.at_ (by omega)
      subst hX0
      have hrow:=own_row hown0
      have HB1:=Lib.hid (below_lift HB.out hb1)
      have HR61:=Lib.hid (row_keep HR6.out hb1)
      have HR21:=Lib.hid (row_keep HR2.out hb1)
      have HR31:=Lib.hid (row_keep HR3.out hb1)
      have HQ1:=Lib.hid (HQ.out.below hb1)
      have HWX:=Lib.hid (show wr.heap.size≤gx from hgx)
      have HBW:=Lib.hid (show w.heap.size≤wr.heap.size from HB.out.size)
      have HLT6:=Lib.hid (lt_heap HR6.out)
      have HLT3:=Lib.hid (lt_heap HR3.out)
      have HNX6:=Lib.hid (show g6≠gx from Nat.ne_of_lt (Nat.lt_of_lt_of_le (lt_heap HR6.out) hgx))
      have HNX3:=Lib.hid (show g3≠gx from Nat.ne_of_lt (Nat.lt_of_lt_of_le (lt_heap HR3.out) hgx))
      have HQW:=Lib.hid (fun (wz:World) (hb:Below wr.heap.size wr wz)=>HQ.out.below hb)
      have HBWX:=Lib.hid hb1
      have HROW:=Lib.hid hrow
      have y2:=cellsX HR21.out 2 (.slice q.r.A q.r.r.rests.length q.r.ca) rfl
      obtain ⟨bs,hbs⟩:∃ bs,bs=q.r.r.rests ++ List.replicate (k - q.r.r.rests.length) false:=⟨_,rfl⟩
      have hbl:bs.length=k:=by rw [hbs,List.length_append,List.length_replicate];omega
      have htk:bs.take q.r.r.rests.length=q.r.r.rests:=by rw [hbs];simp
      have HBS:=Lib.hid hbs
      have HBL:=Lib.hid hbl
      have HTK:=Lib.hid htk
      have hml:q.r.r.rests.length≤k:=by omega
      have hrep:(List.replicate k (Value.bool false))=boolsP (List.replicate k false):=by simp [boolsP]
      have HREP:=Lib.hid hrep
      clear hown0 hb1 hrow HR6 HR2 HR3 HQ HB hbs hbl htk hrep hgx h0b h0
      go_cut [] (fun wx=>wx.heap[gx]? = some (.cells (boolsP bs).toArray 4)∧Below gx w1 wx)
      case first =>
       by_cases hm0:q.r.r.rests.length=0
       ·have hE:=Lib.hid (show bs=List.replicate k false by rw [HBS.out,List.length_eq_zero_iff.1 hm0];simp)
        have HM0:=Lib.hid hm0
        clear hm0
        go_wp2_with (refine wpList_copy_nothing rfl _ _ 31 31 rfl 4 Tryz.underlying31 (by kernel_rfl) _ _ _ _ _ _ rfl rfl (by rw [HM0.out];exact Nat.zero_min _) ?_)
        go_meet
        refine ⟨?_,Below.refl _ _⟩
        rw [hE.out,← HREP.out]
        exact HROW.out
       ·obtain ⟨gr,orr,hA1,hgr,hx1⟩:=HR.out.rests (by rw [boolsP_length];omega)
        have HX:=Lib.hid (fun j v h=>(HB1.out.cell (p:=⟨gr,orr+j,none⟩) hgr).trans (hx1 j v h))
        have HA1:=Lib.hid hA1
        rw [hA1] at y2
        clear hx1 hA1
        go_wp2_with (refine wpList_copy_own rfl _ _ 31 31 rfl 4 Tryz.underlying31 (by kernel_rfl) gx 0 _ _ ⟨gr,orr,none⟩ _ _ rfl rfl (List.replicate k (Value.bool false)).toArray 4 HROW.out (boolsP q.r.r.rests) (by rw [boolsP_length];exact (Nat.min_eq_left hml).symm) (fun j v hv=>by rw [Go.WideShapes.add_plain];exact HX.out j v hv) (by rw [boolsP_length];simp;omega) (fun v hv=>by unfold boolsP at hv;obtain ⟨s,_,rfl⟩:=List.mem_map.1 hv;rfl) ?_)
        go_meet
        refine ⟨?_,below_setRow (Below.refl _ _) (Nat.le_refl _) _⟩
        rw [setRow_heap _ _ _ _ _ _ HROW.out,HBS.out]
        congr 3
        simp [boolsP]
      case rest =>
       obtain ⟨hrowc,hbc⟩:=hcut
       have HRC:=Lib.hid hrowc
       have HB2:=Lib.hid (below_lift HB1.out (show Below w1.heap.size w1 w1 from Below.refl _ _))
       have HGX:=Lib.hid (show g6≠gx∧g3≠gx∧w.heap.size≤gx from ⟨HNX6.out,HNX3.out,Nat.le_trans HBW.out HWX.out⟩)
       have HR62:=Lib.hid (show wc.heap[g6]? = _ from (hbc.block g6 (Nat.lt_of_lt_of_le HLT6.out HWX.out)).trans HR61.out)
       have HR32:=Lib.hid (show wc.heap[g3]? = _ from (hbc.block g3 (Nat.lt_of_lt_of_le HLT3.out HWX.out)).trans HR31.out)
       have HBC:=Lib.hid (show Below w.heap.size w wc from HB1.out.trans (hbc.mono (Nat.le_trans HBW.out HWX.out)))
       have HQC:=Lib.hid (show TripAt wc q from HQW.out wc (HBWX.out.trans (hbc.mono HWX.out)))
       clear hrowc hbc HROW HR61 HR21 HR31 HB1 HQ1 HB2
       have HCB:=Lib.hid (show Cells wc (some ⟨gx,0,none⟩) (boolsP bs) from fun _=>⟨gx,0,rfl,lt_heap HRC.out,fun j v hv=>by rw [Nat.zero_add];exact cellsX HRC.out j v (by simpa using hv)⟩)
       have HRU:=Lib.hid (drun_any q bs (some ⟨gx,0,none⟩) k wc HQC.out HCB.out ⟨by have:=HBL.out;omega,by unfold maxLen;omega⟩ (by have h1:=HBL.out;have h2:=HKS.out;show bs.length≤q.stops.length+1;have h3:q.v.stops.length=q.stops.length:=rfl;omega) (by have:=HSL.out;omega) (HT.out.below HBC.out))
       rw [HBL.out] at HRU
       unfold RunE at HRU
       rcases hrun:runP q.v bs with ⟨_ | l,z⟩
       ·rw [hrun] at HRU
        clear hrun
        go_wp2_with (refine wpList_load_row rfl 84 _ rfl g6 rfl 84 _ _ _ HR62.out Tryz.underlying84 rfl (by kernel_rfl) ?_)
        refine HRU.out.mono ?_
        rintro e w9 ⟨⟨hz,rfl⟩,hb9⟩
        have HR39:=Lib.hid (row_keep HR32.out hb9)
        have HB9:=Lib.hid (below_lift HBC.out hb9)
        have HZ:=Lib.hid hz
        have HS:=Lib.hid (row_set (sheetQ none 0 shZ) HR39.out HB9.out HG.out)
        clear hb9 hz
        go_wp2_with (refine wpList_store_row rfl 39 _ _ rfl g3 (sheetQ none 0 shZ) rfl rfl 39 _ HR39.out (by kernel_rfl) rfl (by kernel_rfl) ?_)
        refine bodyPost_ret (res_row rfl (ld_sheet HS.out.1) rfl rfl) rfl ?_
        exact BestE.no HZ.out HNR.out HS.out.2
       ·rw [hrun] at HRU
        have HRN:=Lib.hid (show runP q.v bs=(some l,0) by rw [hrun,runFrom_zero q.v bs _ 0 l z hrun])
        clear hrun
        go_wp2_with (refine wpList_load_row rfl 84 _ rfl g6 rfl 84 _ _ _ HR62.out Tryz.underlying84 rfl (by kernel_rfl) ?_)
        refine HRU.out.mono ?_
        rintro e w9 ⟨⟨A9,c9,rfl,htm⟩,hb9⟩
        have HR39:=Lib.hid (row_keep HR32.out hb9)
        have HB9:=Lib.hid (below_lift HBC.out hb9)
        have HTM:=Lib.hid htm
        have HS:=Lib.hid (row_set (sheetQ A9 c9 l.sh) HR39.out HB9.out HG.out)
        clear hb9 htm
        go_wp2_with (refine wpList_store_row rfl 39 _ _ rfl g3 (sheetQ A9 c9 l.sh) rfl rfl 39 _ HR39.out (by kernel_rfl) rfl (by kernel_rfl) ?_)
        refine bodyPost_ret (res_row rfl (ld_sheet HS.out.1) rfl rfl) rfl ?_
        exact absurd HRN.out (HNR.out q.v HQC.out.is bs (by rw [HBL.out];exact HKS.out) (by rw [HBL.out];exact hml) (fun j hj hjr=>by
         have h:=HTK.out
         rw [← h,List.getElem?_take,if_pos hjr]) l 0)
     ·have h0b:((L.length:Int) == 0)=false:=int_bf (by omega)
      have hl1:0<L.length:=by omega
      have hl1i:(0:Int)<(L.length:Int):=by omega
      obtain ⟨gA,oA,hA1,hgA,hx1⟩:=elemsP LabM.cells_len (by decide) HCA.out hl1
      have HXA:=Lib.hid (fun (wz:World) (hb:Below wr.heap.size wr wz) i (hi:i<L.length) j u (h:(L[i]).cells[j]? = some u)=>(hb.cell (p:=⟨gA,oA+i*7+j,none⟩) hgA).trans (hx1 i hi j u h))
      have HX0:=Lib.hid (HXA.out wr (Below.refl _ _) 0 hl1)
      have HG0:=Lib.hid (HGL.out _ (List.getElem_mem hl1))
      have HXL:=Lib.hid (show ∀ i (hi:i<L.length),LabAt wr L[i]∧Grown q.v k L[i].l from fun i hi=>HGL.out _ (List.getElem_mem hi))
      have HM0:=Lib.hid (show ∀ x:LabM,x=L[0]→∀ j (h:j<L.length),j≤0→x.l.sh.fin≤L[j].l.sh.fin from fun x hx j h hj=>by
       have:j=0:=by omega
       subst this
       rw [hx]
       exact Int.le_refl _)
      generalize L[0]=m0 at *
      have HA1:=Lib.hid hA1
      rw [hA1]
      have x0:=HX0.out 0 _ rfl
      have x1:=HX0.out 1 _ rfl
      have x2:=HX0.out 2 _ rfl
      have x3:=HX0.out 3 _ rfl
      have x4:=HX0.out 4 _ rfl
      have x5:=HX0.out 5 _ rfl
      have x6:=HX0.out 6 _ rfl
      simp only [Nat.zero_mul,Nat.add_zero] at x0 x1 x2 x3 x4 x5 x6
      obtain ⟨n4,p4⟩:=new_at wr (.cells (labR m0.A m0.c m0.l) 150)
      have HN4:=Lib.hid n4
      clear hx1 n4 hA1 h0
      go_upto_region 16 with fail
      rw [show wr.alloc (.cells #[.int .i64 m0.l.ready,.int .i64 m0.l.since,.bool m0.l.sh.rest,.int .i64 m0.l.sh.dep,.slice m0.A m0.l.sh.times.length m0.c,.int .i64 m0.l.sh.fin,.int .i64 m0.l.sh.miles] 150)=wr.alloc (.cells (labR m0.A m0.c m0.l) 150) from rfl]
      generalize wr.alloc (.cells (labR m0.A m0.c m0.l) 150)=w4 at *
      obtain ⟨g4,hg4⟩:∃ g4,g4=wr.heap.size:=⟨_,rfl⟩
      rw [← hg4] at p4
      rw [← hg4]
      have HP4:=Lib.hid p4
      have HG4:=Lib.hid (show w.heap.size≤g4 by rw [hg4];exact HB.out.size)
      have HG34:=Lib.hid (show g3≠g4 by rw [hg4];exact Nat.ne_of_lt (lt_heap HR3.out))
      have HGA4:=Lib.hid (show gA≠g4 by rw [hg4];exact Nat.ne_of_lt hgA)
      have HW:=Lib.hid (show wr.heap.size≤g4 by omega)
      clear x0 x1 x2 x3 x4 x5 x6 p4 hg4
      generalize hwo:wr=wo at *
      clear hwo
      have hlm:(L.length:Int) - 1=((L.length - 1:Nat):Int):=by omega
      go_cut [65,66,67] (fun s nn j wx=>∃ (X:Option Addr) (cx:Nat),s=.slice X (L.length - 1) cx∧nn=.int .i64 ((L.length - 1:Nat):Int)∧j=.int .i64 0∧(1<L.length→X=some ⟨gA,oA+7,none⟩)∧wx=w4)
      case first =>
       go_wp2_with fail
       ·subst h
        go_meet
        refine ⟨_,_,rfl,by first | rfl | (rw [hlm]),rfl,fun h1=>?_,rfl⟩
        exact absurd hcc.1 (by omega)
       ·go_meet
        exact ⟨_,_,rfl,by first | rfl | (rw [hlm]),rfl,fun h1=>by first | rfl | trivial,rfl⟩
      case rest =>
       obtain ⟨X,cx,rfl,rfl,rfl,hX,hwc⟩:=hcut
       obtain rfl:=hwc.symm
       have HX:=Lib.hid hX
       have HW4:=Lib.hid (show LabAt w4 m0 from HG0.out.1.below HN4.out)
       clear hX hlm
       obtain ⟨n1,hn1⟩:∃ n1,n1=L.length - 1:=⟨_,rfl⟩
       rw [← hn1]
       have HN1:=Lib.hid hn1
       have hn1b:n1≤512:=by omega
       clear hn1
       go_wp2_with fail
       go_loopw [67] (fun j wr=>∃ (i:Nat) (A:Option Addr) (c:Nat) (l:LabV),i≤n1∧j=.int .i64 i∧wr.heap[g4]? = some (.cells (labR A c l) 150)∧TmAt wr A c l.sh.times∧Grown q.v k l∧(∀ j (h:j<L.length),j≤i→l.sh.fin≤L[j].l.sh.fin)∧wr.heap[g3]? = some (.cells (sheetQ none 0 shZ) 39)∧Below wo.heap.size wo wr) (fun j _=>n1 - (intOf j).toNat)
       case atStart=>exact ⟨0,m0.A,m0.c,m0.l,Nat.zero_le _,rfl,HP4.out,HW4.out,HG0.out.2,HM0.out m0 rfl,row_keep HR3.out HN4.out,HN4.out⟩
       case round =>
        clear HP4 HW4 HG0 HN4 HX0
        obtain ⟨i,A2,c2,l,hi,rfl,hr4,htm,hgr,hmin,hr3,hbel⟩:=hrel
        have HMIN:=Lib.hid hmin
        clear hmin
        have HR4:=Lib.hid hr4
        have HTM:=Lib.hid htm
        have HGR:=Lib.hid hgr
        have HRR3:=Lib.hid hr3
        have HBB:=Lib.hid hbel
        clear hr4 htm hgr hr3 hbel
        by_cases hlt:i<n1
        ·have hlt1:(i:Int)<(n1:Int):=by omega
         have hil:i+1<L.length:=by have:=HN1.out;omega
         have hXe:=HX.out (by omega)
         have HXI:=Lib.hid (fun j u h=>(HXA.out wr HBB.out (i+1) hil j u h))
         have HLI:=Lib.hid (HXL.out (i+1) hil)
         have HS1:=Lib.hid (show ∀ x:LabM,x=L[i+1]→x.l.sh.fin<l.sh.fin→∀ j (h:j<L.length),j≤i+1→x.l.sh.fin≤L[j].l.sh.fin from fun x hx hlt j h hj=>by
          by_cases e:j=i+1
          ·subst e;rw [hx];exact Int.le_refl _
          ·have:=HMIN.out j h (by omega);omega)
         have HS2:=Lib.hid (show ∀ x:LabM,x=L[i+1]→¬ x.l.sh.fin<l.sh.fin→∀ j (h:j<L.length),j≤i+1→l.sh.fin≤L[j].l.sh.fin from fun x hx hlt j h hj=>by
          by_cases e:j=i+1
          ·subst e;rw [← hx];omega
          ·exact HMIN.out j h (by omega))
         generalize L[i+1]=mi at *
         have x0:=HXI.out 0 _ rfl
         have x1:=HXI.out 1 _ rfl
         have x2:=HXI.out 2 _ rfl
         have x3:=HXI.out 3 _ rfl
         have x4:=HXI.out 4 _ rfl
         have x5:=HXI.out 5 _ rfl
         have x6:=HXI.out 6 _ rfl
         simp only [show oA+(i+1)*7=oA+7+i*7 by omega,Nat.add_zero] at x0 x1 x2 x3 x4 x5 x6
         obtain ⟨n6,p6⟩:=new_at wr (.cells (labR mi.A mi.c mi.l) 150)
         have HB6:=Lib.hid (below_lift HBB.out n6)
         have HR46:=Lib.hid (row_keep HR4.out n6)
         have HRR36:=Lib.hid (row_keep HRR3.out n6)
         have HTM6:=Lib.hid (HTM.out.below n6)
         have HLI6:=Lib.hid (show LabAt (wr.alloc (.cells (labR mi.A mi.c mi.l) 150)) mi from (HLI.out.1.below HBB.out).below n6)
         rw [hXe]
         clear n6 hXe HXI
         go_upto_region 19 with fail
         rw [show wr.alloc (.cells #[.int .i64 mi.l.ready,.int .i64 mi.l.since,.bool mi.l.sh.rest,.int .i64 mi.l.sh.dep,.slice mi.A mi.l.sh.times.length mi.c,.int .i64 mi.l.sh.fin,.int .i64 mi.l.sh.miles] 150)=wr.alloc (.cells (labR mi.A mi.c mi.l) 150) from rfl]
         generalize wr.alloc (.cells (labR mi.A mi.c mi.l) 150)=w6 at *
         obtain ⟨g6',hg6'⟩:∃ g6',g6'=wr.heap.size:=⟨_,rfl⟩
         rw [← hg6'] at p6
         rw [← hg6']
         have HP6:=Lib.hid p6
         clear x0 x1 x2 x3 x4 x5 x6 p6 hg6' HBB HR4 HRR3 HTM
         have a5:=cellsX HP6.out 5 (.int .i64 mi.l.sh.fin) rfl
         have b5:=cellsX HR46.out 5 (.int .i64 l.sh.fin) rfl
         by_cases hf:mi.l.sh.fin<l.sh.fin
         ·have HS:=Lib.hid (row_set (labR mi.A mi.c mi.l) HR46.out HB6.out (show wo.heap.size≤g4 from HW.out))
          have HMN:=Lib.hid (HS1.out mi rfl hf)
          go_wp2_with (first | (refine wpList_load_row rfl 150 _ rfl g6' rfl 150 _ _ _ HP6.out Tryz.underlying150 rfl (by kernel_rfl) ?_) | (refine wpList_store_row rfl 150 _ _ rfl g4 (labR mi.A mi.c mi.l) rfl rfl 150 _ HR46.out (by kernel_rfl) rfl (by kernel_rfl) ?_))
          go_roundw
          case rel=>exact ⟨i+1,mi.A,mi.c,mi.l,by omega,by go_num,HS.out.1,TmAt.keep HLI6.out HR46.out (by decide) (by rw [setRow_size];exact Nat.le_refl _) (fun k _ hk=>setRow_other _ _ _ _ hk),HLI.out.2,HMN.out,(setRow_other _ _ _ _ HG34.out).trans HRR36.out,HS.out.2⟩
          case measure=>simp [intOf];omega
         ·have HMN:=Lib.hid (HS2.out mi rfl hf)
          go_wp2_with fail
          go_roundw
          case rel=>exact ⟨i+1,A2,c2,l,by omega,by go_num,HR46.out,HTM6.out,HGR.out,HMN.out,HRR36.out,HB6.out⟩
          case measure=>simp [intOf];omega
        ·have hlt1:¬ (i:Int)<(n1:Int):=by omega
         have y2:=cellsX HR4.out 2 (.bool l.sh.rest) rfl
         have y3:=cellsX HR4.out 3 (.int .i64 l.sh.dep) rfl
         have y4:=cellsX HR4.out 4 (.slice A2 l.sh.times.length c2) rfl
         have y5:=cellsX HR4.out 5 (.int .i64 l.sh.fin) rfl
         have y6:=cellsX HR4.out 6 (.int .i64 l.sh.miles) rfl
         have HS:=Lib.hid (row_set (sheetQ A2 c2 l.sh) HRR3.out (below_lift HB.out HBB.out) HG.out)
         go_wp2_with (refine wpList_store_row rfl 39 _ _ rfl g3 (sheetQ A2 c2 l.sh) rfl rfl 39 _ HRR3.out (by kernel_rfl) rfl (by kernel_rfl) ?_)
         refine bodyPost_ret (res_row rfl (ld_sheet HS.out.1) rfl rfl) rfl ?_
         refine BestE.yes (p:=q.v) ?_ HQ.out.is ?_ (min_of HKS.out HCL.out HGL.out (fun j hj=>HMIN.out j hj (by have:=HN1.out;omega))) HS.out.2
         ·exact TmAt.keep HTM.out HRR3.out (by decide) (by rw [setRow_size];exact Nat.le_refl _) (fun k _ hk=>setRow_other _ _ _ _ hk)
         ·have hh:=HGR.out
          rw [HKS.out] at hh
          exact hh.best (by have:=HKS.out;show q.r.r.rests.length≤_;omega)
end Go.Proofs.YtjcekdiocliddaaGreatDoor

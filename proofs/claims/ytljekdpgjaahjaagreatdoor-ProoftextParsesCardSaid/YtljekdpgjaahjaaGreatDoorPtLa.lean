/- The law ProoftextParses. -/
import Derived.Test.YtljekdpgjaahjaaGreatDoorPtU6
import Derived.Test.YtljekdpgjaahjaaGreatDoorPtAw
import Derived.Test.YtljekdpgjaahjaaGreatDoorG57
import Derived.Test.YtljekdpgjaahjaaGreatDoorG55
namespace Go.Proofs.YtljekdpgjaahjaaGreatDoor
open Go.RowKit Num Txt Pf
set_option linter.unusedVariables false
attribute [local go_sem] B_size B_get B_toList B_mk B_extract B_append
theorem dualS_eq2 (d:Str):dualS d=[100,117,97,108,32] ++ d ++ [10]:=rfl
theorem headS_no2 {p:ProofV} (h:p.none=false):headS p=[112,114,111,111,102,32,112,108,97,110,32] ++ quote (planS p.plan) ++ [10]:=by unfold headS;rw [if_neg (by rw [h];decide)];rfl
theorem print_ok2 {p:ProofV} (h:(printR p).2=0):printR p=(proofS p,0)∧(∀ x ∈ p.nodes,nodeOK x)∧(proofS p).length≤65536:=by
 unfold printR at h ⊢
 split at h
 ·exact absurd h (by decide)
 rename_i h1
 split at h
 ·exact absurd h (by decide)
 rename_i h2
 split at h
 ·rename_i h3;exact absurd h h3
 rename_i h3
 split at h
 ·exact absurd h (by decide)
 rename_i h4
 rw [if_neg h1,if_neg h2,if_neg h3,if_neg h4]
 exact ⟨rfl,nodesE_zero.1 (Decidable.not_not.1 h3),by omega⟩
theorem flat_ge {α} {f:α→Str} {k:Nat}:∀ {l:List α},(∀ x ∈ l,k≤(f x).length)→l.length*k≤(l.flatMap f).length
 |[],_=>by simp
 |a :: l,h=>by
  have h1:=h a (by simp)
  have h2:=flat_ge (f:=f) (k:=k) (l:=l) fun x hx=>h x (by simp [hx])
  rw [List.flatMap_cons,List.length_append,List.length_cons,Nat.succ_mul]
  omega
theorem flat_mem {α} {f:α→Str} {x:α}:∀ {l:List α},x ∈ l→(f x).length≤(l.flatMap f).length
 |a :: l,h=>by
  rw [List.flatMap_cons,List.length_append]
  rcases List.mem_cons.1 h with rfl | h
  ·omega
  ·have:=flat_mem (f:=f) h;omega
theorem line_ge (a:Str) (ws:List Str):a.length+1≤(lineS (a :: ws)).length:=by
 unfold lineS
 rw [join_cons_flat,List.length_append,List.length_append]
 simp only [List.length_cons,List.length_nil]
 omega
theorem rous_ge {p:PlanV}:p.rous.length*3≤(planS p).length∧p.uns.length≤(planS p).length∧∀ r ∈ p.rous,r.rests.length≤(planS p).length∧r.vis.length≤(planS p).length:=by
 have hp:(planS p).length=(rousS p.rous).length+(lineS (unsWs p.uns)).length:=by unfold planS;rw [List.length_append]
 have h1:p.rous.length*3≤(rousS p.rous).length:=flat_ge fun r _=>by have:=line_ge routeW (decI r.kind :: decI r.start :: restsW r.rests :: r.vis.map visW);have h2:routeW.length=5:=rfl;show 3≤(lineS (rouWs r)).length;unfold rouWs;omega
 have h2:p.uns.length≤(lineS (unsWs p.uns)).length:=by
  unfold lineS
  rw [join_uns]
  have:=flat_ge (f:=fun u:Int=>(32 :: decI u:Str)) (k:=1) (l:=p.uns) fun u _=>by rw [List.length_cons];omega
  simp only [List.length_append]
  omega
 refine ⟨by omega,by omega,fun r hr=>?_⟩
 have h3:(lineS (rouWs r)).length≤(rousS p.rous).length:=flat_mem (f:=fun r=>lineS (rouWs r)) hr
 have h4:r.rests.length≤(lineS (rouWs r)).length∧r.vis.length≤(lineS (rouWs r)).length:=by
  unfold lineS
  rw [join_rou]
  have e1:r.rests.length≤(restsW r.rests).length:=by
   unfold restsW;split
   ·rename_i h;rw [h];simp
   ·simp
  have e2:=flat_ge (f:=fun v:Int × Bool=>(32 :: visW v:Str)) (k:=1) (l:=r.vis) fun u _=>by rw [List.length_cons];omega
  simp only [List.length_append]
  omega
 omega
theorem node_ge {n:NodeV} (h:foreign n=false):n.cuts.length*3≤(nodeS n).length∧n.dual.length*3≤(nodeS n).length∧∀ d ∈ n.dual,d.length≤(nodeS n).length:=by
 unfold nodeS
 by_cases hl:n.leaf=true
 ·rw [if_pos hl]
  have h1:n.cuts.length*3≤(n.cuts.flatMap cutS).length:=flat_ge fun c _=>by have:=line_ge cutW [decI c.1,decI c.2.1,decI c.2.2];have h2:cutW.length=3:=rfl;unfold cutS;omega
  have h2:n.dual.length*3≤(n.dual.flatMap dualS).length:=flat_ge fun d _=>by have:=line_ge dualW [d];have h2:dualW.length=4:=rfl;unfold dualS;omega
  simp only [List.length_append]
  refine ⟨by omega,by omega,fun d hd=>?_⟩
  have h3:=flat_mem (f:=dualS) hd
  have h4:d.length≤(dualS d).length:=by rw [dualS_eq2];simp only [List.length_append];omega
  omega
 ·unfold foreign at h
  rw [if_neg hl] at h
  simp only [Bool.or_eq_false_iff,bne_eq_false_iff_eq,Bool.not_eq_false',List.isEmpty_iff] at h
  rw [h.1.2,h.2]
  simp
structure PrintB (p:ProofV):Prop where
 rl:p.plan.rous.length≤1000
 ul:p.plan.uns.length≤6000
 each:∀ r ∈ p.plan.rous,r.rests.length≤6000∧r.vis.length≤6000
 plan:(planS p.plan).length≤10000
 node:∀ n ∈ p.nodes,n.cuts.length≤1000∧n.dual.length≤1000∧∀ d ∈ n.dual,d.length≤10000
theorem printB_of {p:ProofV} (h:(printR p).2=0) (hl:(printR p).1.length≤3000):PrintB p:=by
 obtain ⟨h1,h2,_⟩:=print_ok2 h
 rw [h1] at hl
 have hl:(proofS p).length≤3000:=hl
 have hps:(planS p.plan).length≤3000:=by
  cases hn:p.none with
  |true =>
   have hp:p.plan.rous=[]∧p.plan.uns=[]:=Classical.byContradiction fun hc=>by
    unfold printR at h
    split at h
    ·exact absurd h (by decide)
    ·rw [if_pos ⟨hn,hc⟩] at h;exact absurd h (by decide)
   have:p.plan=⟨[],[]⟩:=by
    cases hq:p.plan with
    |mk a b=>rw [hq] at hp;simp only at hp;rw [hp.1,hp.2]
   rw [this];decide
  |false =>
   have e1:(headS p).length≤(proofS p).length:=by unfold proofS;simp only [List.length_append];omega
   rw [headS_no2 hn] at e1
   have e2:(planS p.plan).length≤(quote (planS p.plan)).length:=by
    have:=forms_le (planS p.plan)
    unfold quote
    simp only [List.length_append,List.length_cons]
    omega
   simp only [List.length_append] at e1
   omega
 obtain ⟨r1,r2,r3⟩:=rous_ge (p:=p.plan)
 refine ⟨by omega,by omega,fun r hr=>by have:=r3 r hr;omega,by omega,fun n hn=>?_⟩
 have e1:(nodeS n).length≤(proofS p).length:=by
  have:=flat_mem (f:=nodeS) hn
  unfold proofS
  simp only [List.length_append]
  omega
 obtain ⟨n1,n2,n3⟩:=node_ge (h2 n hn).1
 exact ⟨by omega,by omega,fun d hd=>by have:=n3 d hd;omega⟩
theorem parseR_no {s:Str} (h:(parseR s).2.2≠0):(parseR s).1.nodes=[]:=by
 by_cases hl:s.length≤65536
 ·obtain ⟨h1,h2⟩:=parseR_get hl
  cases hh:headR ((linesG s).1.getD 0 []) with
  |none=>rw [h1 hh]
  |some x =>
   obtain ⟨q,P⟩:=x
   obtain ⟨e,_⟩:=h2 q P hh
   rw [e] at h ⊢
   unfold finR at h ⊢
   split
   ·rename_i h3
    rw [if_pos h3] at h
    exact absurd h3 h
   ·rfl
 ·unfold parseR;rw [if_pos (by omega)]
theorem parses_print (m:ProofM) (l:Str) (w:World) (h:ProofAt w m) (hp:printR m.v=(l,0)) (hl:l.length≤3000) (he:EnvP w) :
  Calls Tryz.prog 11 #[proofA m] w fun e w'=>e=.returned (.tuple #[.string (B l),.int .i64 0])∧Below w.heap.size w w':=by
 have hb:=printB_of (p:=m.v) (by rw [hp]) (by rw [hp];exact hl)
 have h1:=pprintp_any m w h (by have:=hb.rl;rw [show m.v.plan.rous=m.P.rs.map (·.r) from rfl,List.length_map] at this;exact this) hb.ul (fun r hr=>hb.each r.r (List.mem_map_of_mem hr)) hb.plan (fun n hn=>hb.node n.n (List.mem_map_of_mem hn)) he.1
 rw [hp] at h1
 exact h1
set_option maxHeartbeats 8000000 in
set_option maxRecDepth 100000 in
theorem prooftextParses_walk (l:List UInt8) (w:World) (hl:l.length≤maxLen) (ht:Env w) (hr:ErrV w) :
  Calls Tryz.prog 4 #[.string (B l)] w fun e w'=>e=.returned (.bool true)∧Below w.heap.size w w':=by
 have he:EnvP w:=⟨ht,hr⟩
 clear ht hr
 have HAW:=Lib.hid (fun w' (h:Below w.heap.size w w')=>awake39_any w' (he.below h))
 by_cases hbig:3000<l.length
 ·have h1:(3000:Int)<(l.length:Int):=by omega
  have HA:=Lib.hid (HAW.out w (Below.refl _ _))
  clear hbig he
  go_enter Tryz.func4,Tryz.ntmps4
  (try simp only [B_mk])
  go_wp2_with fail
  refine HA.out.mono ?_
  rintro e w' ⟨rfl,hb⟩
  go_wp2_with fail
  go_ret
  exact ⟨rfl,hb⟩
 ·have h1:¬ (3000:Int)<(l.length:Int):=by omega
  have HP:=Lib.hid (parse_any l w (by omega) (short_head (by omega)) he)
  have HQ:=Lib.hid (fun w'=>rparse_any l w' (by omega))
  have HE:=Lib.hid (fun w' (h:Below w.heap.size w w')=>he.below h)
  have HNO:=Lib.hid (fun h=>@parseR_no l h)
  have HPP:=Lib.hid (show (parseR l).2.2=0→printR (parseR l).1=(l,0) from fun h=>(parse_print h).1)
  have HLL:=Lib.hid (show l.length≤3000 by omega)
  generalize parseR l=R at *
  clear hbig he
  go_enter Tryz.func4,Tryz.ntmps4
  (try simp only [B_mk])
  go_wp2_with fail
  refine HP.out.mono ?_
  rintro e w1 ⟨m,rfl,hmv,hma,hb1⟩
  obtain ⟨n2,p2⟩:=new_at w1 (proofB m)
  have HB2:=Lib.hid (below_lift hb1 n2)
  have HP2:=Lib.hid p2
  have HM2:=Lib.hid (hma.below n2)
  have HMV:=Lib.hid hmv
  clear hb1 n2 p2 hma hmv HP
  go_upto_region 4 with fail
  generalize w1.alloc (proofB m)=w2 at *
  generalize w1.heap.size=b1 at *
  have HQ2:=Lib.hid (HQ.out w2)
  go_wp2_with fail
  refine HQ2.out.mono ?_
  rintro e w3 ⟨m2,rfl,hmv,hma,hb3⟩
  obtain ⟨n4,p4⟩:=new_at w3 (proofB m2)
  have HB4:=Lib.hid (below_lift (below_lift HB2.out hb3) n4)
  have HP4:=Lib.hid (row_keep (row_keep HP2.out hb3) n4)
  have HM4:=Lib.hid ((HM2.out.below hb3).below n4)
  have HO4:=Lib.hid p4
  have HN4:=Lib.hid (hma.below n4)
  have HMV2:=Lib.hid hmv
  clear hb3 n4 p4 hma hmv HQ HQ2 HB2 HP2 HM2
  go_upto_region 5 with fail
  generalize w3.alloc (proofB m2)=w4 at *
  generalize w3.heap.size=b2 at *
  have HS:=Lib.hid (rpSame_any m m2 w4 HM4.out HN4.out)
  rw [eqv_true (HMV.out.trans HMV2.out.symm)] at HS
  obtain ⟨a0,a1,a2,a3⟩:=cells4 HP4.out
  obtain ⟨d0,d1,d2,d3⟩:=cells4 HO4.out
  have HZ:=Lib.hid (show R.2.2≠0→m.ns.length=0 from fun h=>by
   have h2:=HNO.out h
   rw [← HMV.out] at h2
   have h3:=congrArg List.length h2
   rw [show m.v.nodes=m.ns.map (·.n) from rfl,List.length_map] at h3
   exact h3)
  have HPV:=Lib.hid (show R.2.2=0→printR m.v=(l,0) from fun h=>by rw [HMV.out];exact HPP.out h)
  clear HNO HPP
  generalize R.2.2=re at *
  generalize R.2.1=ra at *
  have q1:((ra:Int) != (ra:Int))=false:=by simp
  have q2:(re != re)=false:=by simp
  go_wp2_with fail
  refine HS.out.mono ?_
  rintro e w5 ⟨rfl,hb5⟩
  have HB5:=Lib.hid (below_lift HB4.out hb5)
  have HP5:=Lib.hid (row_keep HP4.out hb5)
  have HM5:=Lib.hid (HM4.out.below hb5)
  clear a0 a1 a2 a3 d0 d1 d2 d3 hb5 HS HB4 HP4 HM4 HO4 HN4
  obtain ⟨a0,a1,a2,a3⟩:=cells4 HP5.out
  have HA:=Lib.hid (HAW.out w5 HB5.out)
  by_cases hz:re=0
  ·have e1:(re != 0)=false:=by rw [hz];rfl
   have HPR:=Lib.hid (parses_print m l w5 HM5.out (HPV.out hz) HLL.out (HE.out w5 HB5.out))
   have q3:(l == l)=true:=by simp
   clear hz HZ HPV
   go_wp2_with fail
   refine HPR.out.mono ?_
   rintro e w6 ⟨rfl,hb6⟩
   have HB6:=Lib.hid (below_lift HB5.out hb6)
   have HA6:=Lib.hid (HAW.out w6 HB6.out)
   clear hb6 HPR
   go_wp2_with fail
   refine HA6.out.mono ?_
   rintro e w7 ⟨rfl,hb7⟩
   go_wp2_with fail
   go_ret
   exact ⟨rfl,below_lift HB6.out hb7⟩
  ·have e1:(re != 0)=true:=by simpa using hz
   have e2:((m.ns.length:Int) == 0)=true:=by rw [HZ.out hz];rfl
   clear hz HZ HPV
   go_wp2_with fail
   refine HA.out.mono ?_
   rintro e w7 ⟨rfl,hb7⟩
   go_wp2_with fail
   go_ret
   exact ⟨rfl,below_lift HB5.out hb7⟩
end Go.Proofs.YtljekdpgjaahjaaGreatDoor

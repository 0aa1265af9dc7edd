/- lorryref39: Print. -/
import Derived.Test.YtljekdpgjaahjaaGreatDoorPtT2
import Derived.Test.YtljekdpgjaahjaaGreatDoorPtV5
import Derived.Test.YtljekdpgjaahjaaGreatDoorTRef
import Derived.Test.YtljekdpgjaahjaaGreatDoorG64
namespace Go.Proofs.YtljekdpgjaahjaaGreatDoor
open Go.RowKit Num Txt Pf
set_option linter.unusedVariables false
attribute [local go_sem] B_size B_get B_toList B_mk B_extract B_append
theorem nodeP_at {l:List NodeV} {k:Nat} (hk:k<l.length) (h:nodesE (l.take k)=0):((nodeP l[k]).2=0→(nodeP l[k]).1=nodeS l[k]∧nodesE (l.take (k+1))=0)∧((nodeP l[k]).2≠0→nodesE l=(nodeP l[k]).2∧nodesE l≠0):=by
 obtain ⟨h1,h2,h3⟩:=nodesE_at hk h
 unfold nodeP
 by_cases hf:foreign l[k]=true
 ·rw [if_pos hf]
  exact ⟨fun h=>absurd h (by decide),fun _=>by rw [h1 hf];exact ⟨rfl,by decide⟩⟩
 ·rw [if_neg hf]
  have hf':foreign l[k]=false:=by simpa using hf
  by_cases ha:(l[k]).dual.all rightQ=true
  ·rw [if_pos ha]
   exact ⟨fun _=>⟨rfl,h3 hf' ha⟩,fun h=>absurd rfl h⟩
  ·rw [if_neg ha]
   exact ⟨fun h=>absurd h (by decide),fun _=>by rw [h2 hf' (by simpa using ha)];exact ⟨rfl,by decide⟩⟩
theorem headS_yes {p:ProofV} (h:p.none=true):headS p=[112,114,111,111,102,32,110,111,110,101,10]:=by unfold headS;rw [if_pos h];rfl
theorem headS_no {p:ProofV} (h:p.none=false):headS p=[112,114,111,111,102,32,112,108,97,110,32] ++ quote (planS p.plan) ++ [10]:=by unfold headS;rw [if_neg (by rw [h];decide)];rfl
def restR (h0:Str) (l:List NodeV):Str × Int:=if nodesE l≠0 then ([],nodesE l) else if (h0 ++ l.flatMap nodeS ++ [101,110,100,10]).length > 65536 then ([],4) else (h0 ++ l.flatMap nodeS ++ [101,110,100,10],0)
theorem printR_rest {p:ProofV} (h1:¬ p.nodes.length > 1024) (h2:¬ (p.none=true∧¬ (p.plan.rous=[]∧p.plan.uns=[]))):printR p=restR (headS p) p.nodes:=by
 unfold printR restR
 rw [if_neg h1,if_neg h2]
 rfl
set_option maxHeartbeats 8000000 in
set_option maxRecDepth 100000 in
theorem rprintp_any (m:ProofM) (w:World) (h:ProofAt w m) (h1:m.P.rs.length≤1000) (h2:m.P.us.length≤6000) (h3:∀ r ∈ m.P.rs,r.r.rests.length≤6000∧r.r.vis.length≤6000) (hq:(planS m.P.v).length≤10000) (h4:∀ n ∈ m.ns,n.n.cuts.length≤1000∧n.n.dual.length≤1000∧∀ d ∈ n.n.dual,d.length≤10000) :
  Calls Tryz.prog 12 #[proofA m] w fun e w'=>e=.returned (.tuple #[.string (B (printR m.v).1),.int .i64 (printR m.v).2])∧Below w.heap.size w w':=by
 obtain ⟨bw,o1⟩:=new_at w (proofB m)
 have HB:=Lib.hid bw
 have HO:=Lib.hid o1
 have HN:=Lib.hid (h.below bw)
 have l1:=h.nl
 have l2:=h.plan.rl
 have l3:=h.plan.ul
 unfold maxLen at l1 l2 l3
 have HPP:=Lib.hid (fun w' (hb:Below w.heap.size w w')=>rplprint_any m.P w' (h.plan.below hb) (by omega) (by omega) h3)
 have HQT:=Lib.hid (fun w'=>rquote_any (planS m.P.v) w' hq)
 have HQL:=Lib.hid (show (quote (planS m.P.v)).length≤40010 from Nat.le_trans (Pf.quote_len _) (by omega))
 have HH1:=Lib.hid (fun (h:m.none=true)=>headS_yes (p:=m.v) h)
 have HH0:=Lib.hid (fun (h:m.none=false)=>headS_no (p:=m.v) h)
 have HRS:=Lib.hid (fun h1 h2=>printR_rest (p:=m.v) h1 h2)
 have HR4:=Lib.hid (show m.v.nodes.length > 1024→printR m.v=([],4) from fun h=>by unfold printR;rw [if_pos h])
 have HR2:=Lib.hid (show ¬ m.v.nodes.length > 1024→(m.v.none=true∧¬ (m.v.plan.rous=[]∧m.v.plan.uns=[]))→printR m.v=([],2) from fun h h5=>by unfold printR;rw [if_neg h,if_pos h5])
 have HND:=Lib.hid (fun (n:NodeM) (hn:n ∈ m.ns) w' (hb:Below w.heap.size w w')=>rnode_any n w' ((h.each n hn).below hb) (h4 n hn).1 (h4 n hn).2.1 (h4 n hn).2.2)
 have HNL:=Lib.hid (fun (n:NodeM) (hn:n ∈ m.ns)=>nodeS_len (h.each n hn) (h4 n hn).1 (h4 n hn).2.1 (h4 n hn).2.2)
 have HVN:=Lib.hid (show m.v.nodes=m.ns.map (·.n) from rfl)
 generalize printR m.v=R at *
 generalize headS m.v=h0 at *
 obtain ⟨none,⟨pA,pca,rs,pC,pcc,us⟩,A,ca,ns⟩:=m
 have HR4:=Lib.hid (show ns.length > 1024→R=([],4) from fun h=>HR4.out (by rw [HVN.out,List.length_map];exact h))
 have HR2:=Lib.hid (show ¬ ns.length > 1024→none=true→¬ (rs.length=0∧us.length=0)→R=([],2) from fun h h5 h6=>HR2.out (by rw [HVN.out,List.length_map];exact h) ⟨h5,fun h7=>h6 ⟨by have:=congrArg List.length h7.1;rw [show (PlanV.rous _).length=(rs.map (·.r)).length from rfl,List.length_map] at this;exact this,congrArg List.length h7.2⟩⟩)
 have HRS:=Lib.hid (show ¬ ns.length > 1024→(none=false∨(rs.length=0∧us.length=0))→R=restR h0 (ns.map (fun x:NodeM=>x.n)) from fun h h5=>HRS.out (by rw [HVN.out,List.length_map];exact h) (fun h6=>by
  rcases h5 with h5 | h5
  ·have:=h6.1
   change none=true at this
   rw [h5] at this;exact absurd this (by decide)
  ·exact h6.2 ⟨by show rs.map _=[];rw [List.length_eq_zero_iff.1 h5.1];rfl,List.length_eq_zero_iff.1 h5.2⟩))
 simp only at l1 l2 l3 h1 h2 HQT HQL HPP HH0 HH1 HND HNL
 change Hid (∀ w',Below w.heap.size w w'→Calls Tryz.prog 18 #[.agg #[.slice pA rs.length pca,.slice pC us.length pcc]] w' _) at HPP
 have HH0:=Lib.hid (show none=false→h0=[112,114,111,111,102,32,112,108,97,110,32] ++ quote (planS (PlanM.v ⟨pA,pca,rs,pC,pcc,us⟩)) ++ [10] from HH0.out)
 have HH1:=Lib.hid (show none=true→h0=[112,114,111,111,102,32,110,111,110,101,10] from HH1.out)
 generalize planS (PlanM.v ⟨pA,pca,rs,pC,pcc,us⟩)=PS at *
 generalize quote PS=QS at *
 clear h bw o1 hq h3 h4
 go_enter Tryz.func12,Tryz.ntmps12
 simp only [B_mk]
 go_upto_region 1 with fail
 generalize (w.alloc _)=wB at *
 obtain ⟨a0,a1,a2,a3⟩:=cells4 HO.out
 by_cases hbig:ns.length > 1024
 ·have hbi:(1024:Int)<(ns.length:Int):=by omega
  obtain rfl:=HR4.out hbig
  clear hbig
  go_wp2_with fail
  go_ret2
  exact ⟨rfl,HB.out⟩
 ·have hbi:¬ (1024:Int)<(ns.length:Int):=by omega
  have HB0:=Lib.hid (Below.refl wB.heap.size wB)
  by_cases hbad:none=true∧¬ (rs.length=0∧us.length=0)
  ·obtain ⟨rfl,hne⟩:=hbad
   obtain rfl:=HR2.out hbig rfl hne
   by_cases hr0:rs.length=0
   ·have g1:¬ (0:Int)<(rs.length:Int):=by omega
    have g2:(0:Int)<(us.length:Int):=by omega
    have d1:decide (0<rs.length)=false:=decide_eq_false (by omega)
    have d2:decide (0<us.length)=true:=decide_eq_true (by omega)
    have d3:¬ 0<rs.length:=by omega
    have d4:0<us.length:=by omega
    clear hne hr0 hbig
    go_wp2_with fail
    go_ret2
    exact ⟨rfl,HB.out⟩
   ·have g1:(0:Int)<(rs.length:Int):=by omega
    have d1:decide (0<rs.length)=true:=decide_eq_true (by omega)
    have d3:0<rs.length:=by omega
    clear hne hr0 hbig
    go_wp2_with fail
    go_ret2
    exact ⟨rfl,HB.out⟩
  ·have HRX:=Lib.hid (HRS.out hbig (by
    cases none with
    |false=>exact .inl rfl
    |true=>exact .inr (Classical.byContradiction fun h=>hbad ⟨rfl,h⟩)))
   have hg:none=false∨none=true∧rs.length=0∧us.length=0:=by
    cases none with
    |false=>exact .inl rfl
    |true=>right;have h:=Classical.byContradiction fun h=>hbad ⟨rfl,h⟩;exact ⟨rfl,by omega,by omega⟩
   clear hbad hbig HRS HR2 HR4
   have hh0:h0.length≤100000:=by
    cases none with
    |false=>rw [HH0.out rfl];have:=HQL.out;simp only [List.length_append,List.length_cons,List.length_nil];omega
    |true=>rw [HH1.out rfl];decide
   rcases hg with rfl | ⟨rfl,gz1,gz2⟩
   ·have HHX:=Lib.hid (HH0.out rfl)
    have hql:=HQL.out
    have HP1:=Lib.hid (HPP.out wB HB.out)
    clear HH0 HH1 HPP
    go_wp2_with fail
    refine HP1.out.mono ?_
    rintro e w2 ⟨rfl,hb2⟩
    have HQ2:=Lib.hid (HQT.out w2)
    go_wp2_with fail
    refine HQ2.out.mono ?_
    rintro e w3 ⟨rfl,hb3⟩
    have HB3:=Lib.hid (below_lift hb2 hb3)
    clear hb2 hb3 HQ2 HP1 a0 a1 a2 a3 HQT
    obtain ⟨a0,a1,a2,a3⟩:=cells4 (row_keep HO.out HB3.out)
    go_upto_region 8 with fail
    go_wp2_with fail
    have HB4:=Lib.hid (show Below wB.heap.size wB w3 from HB3.out)
    clear a0 a1 a2 a3
    go_loopw [4,5,6,7] (fun s i _ _ wr=>∃ k:Nat,k≤ns.length∧i=.int .i64 k∧s=.string (B (h0 ++ ((ns.map (fun x:NodeM=>x.n)).take k).flatMap nodeS))∧nodesE ((ns.map (fun x:NodeM=>x.n)).take k)=0∧Below wB.heap.size wB wr) (fun _ i _ _ _=>ns.length - (intOf i).toNat)
    case atStart=>exact ⟨0,by omega,rfl,by rw [HHX.out];simp,rfl,HB4.out⟩
    case round =>
     clear HB4
     obtain ⟨k,hk,rfl,rfl,hnz,hbel⟩:=hrel
     have hsl:=flat_le nodeS (b:=20000000) ((ns.map (fun x:NodeM=>x.n)).take k) (fun x hx=>by
      obtain ⟨y,hy,rfl⟩:=List.mem_map.1 (List.mem_of_mem_take hx)
      exact HNL.out y hy)
     rw [List.length_take_of_le (by rw [List.length_map];exact hk)] at hsl
     have hsl:(h0 ++ ((ns.map (fun x:NodeM=>x.n)).take k).flatMap nodeS).length≤100000000000:=by rw [List.length_append];omega
     obtain ⟨a0,a1,a2,a3⟩:=cells4 (row_keep HO.out hbel)
     have hbw:=below_lift HB.out hbel
     by_cases hlt:k<ns.length
     ·have hkl:(k:Int)<(ns.length:Int):=by omega
      obtain ⟨g1,o1,hA1,hg1,hx1⟩:=elems NodeM.cells_len (by decide) (show Cells wB A (ns.flatMap NodeM.cells) from HN.out.nodes) (by omega)
      subst hA1
      have hx3:=hx1 k hlt
      have hlm:k<(ns.map (fun x:NodeM=>x.n)).length:=by rw [List.length_map];exact hlt
      have HAT:=Lib.hid (show ((nodeP ns[k].n).2=0→(nodeP ns[k].n).1=nodeS ns[k].n∧nodesE ((ns.map (fun x:NodeM=>x.n)).take (k+1))=0)∧((nodeP ns[k].n).2≠0→nodesE (ns.map (fun x:NodeM=>x.n))=(nodeP ns[k].n).2∧nodesE (ns.map (fun x:NodeM=>x.n))≠0) from by have:=nodeP_at hlm hnz;rw [List.getElem_map] at this;exact this)
      have HTK:=Lib.hid (show (h0 ++ ((ns.map (fun x:NodeM=>x.n)).take k).flatMap nodeS) ++ nodeS ns[k].n=h0 ++ ((ns.map (fun x:NodeM=>x.n)).take (k+1)).flatMap nodeS from by have:=flat_take nodeS hlm;rw [List.getElem_map] at this;rw [List.append_assoc,this])
      have HLN:=Lib.hid (HNL.out _ (List.getElem_mem hlt))
      have HNO:=Lib.hid (HND.out _ (List.getElem_mem hlt) wr hbw)
      clear hx1 hlm hnz
      generalize ns[k]=nd at *
      have c0:=(hbel.cell (p:=⟨g1,o1+k*10,none⟩) hg1).trans (hx3 0 (.bool nd.n.leaf) rfl)
      have c1:=(hbel.cell (p:=⟨g1,o1+k*10+1,none⟩) hg1).trans (hx3 1 (.int .i64 nd.n.kind) rfl)
      have c2:=(hbel.cell (p:=⟨g1,o1+k*10+2,none⟩) hg1).trans (hx3 2 (.slice nd.A nd.n.cuts.length nd.ca) rfl)
      have c3:=(hbel.cell (p:=⟨g1,o1+k*10+3,none⟩) hg1).trans (hx3 3 (.slice nd.C nd.n.dual.length nd.cc) rfl)
      have c4:=(hbel.cell (p:=⟨g1,o1+k*10+4,none⟩) hg1).trans (hx3 4 (.int .i64 nd.n.ck) rfl)
      have c5:=(hbel.cell (p:=⟨g1,o1+k*10+5,none⟩) hg1).trans (hx3 5 (.int .i64 nd.n.ca) rfl)
      have c6:=(hbel.cell (p:=⟨g1,o1+k*10+6,none⟩) hg1).trans (hx3 6 (.int .i64 nd.n.cb) rfl)
      have c7:=(hbel.cell (p:=⟨g1,o1+k*10+7,none⟩) hg1).trans (hx3 7 (.int .i64 nd.n.cn) rfl)
      have c8:=(hbel.cell (p:=⟨g1,o1+k*10+8,none⟩) hg1).trans (hx3 8 (.int .i64 nd.n.yes) rfl)
      have c9:=(hbel.cell (p:=⟨g1,o1+k*10+9,none⟩) hg1).trans (hx3 9 (.int .i64 nd.n.no) rfl)
      clear hx3
      generalize hpe:(nodeP nd.n).2=pe at *
      generalize hps:(nodeP nd.n).1=ps at *
      have HLP:=Lib.hid (show pe=0→ps.length≤20000000 from fun h=>by rw [(HAT.out.1 h).1];exact HLN.out)
      generalize nodeS nd.n=nS at *
      generalize h0 ++ ((ns.map (fun x:NodeM=>x.n)).take k).flatMap nodeS=S1 at *
      clear hpe hps
      go_wp2_with fail
      refine HNO.out.mono ?_
      rintro e w5 ⟨rfl,hb5⟩
      have hbel5:=below_lift hbel hb5
      clear hb5 HNO c0 c1 c2 c3 c4 c5 c6 c7 c8 c9
      by_cases hz:pe=0
      ·have e1:(pe != 0)=false:=by rw [hz];rfl
       have hlp:=HLP.out hz
       have HAZ:=Lib.hid (HAT.out.1 hz)
       clear hz HAT HLP
       go_wp2_with fail
       all_goals first
        |exact ⟨⟨k+1,by omega,by go_num,by rw [← HTK.out,HAZ.out.1],HAZ.out.2,hbel5⟩,by simp [intOf];omega⟩
        |(go_roundw
          case rel=>exact ⟨k+1,by omega,by go_num,by rw [← HTK.out,HAZ.out.1],HAZ.out.2,hbel5⟩
          case measure=>simp [intOf];omega)
      ·have e1:(pe != 0)=true:=by simpa using hz
       have HAZ:=Lib.hid (HAT.out.2 hz)
       have HRZ:=Lib.hid (show R=([],pe) by rw [HRX.out];unfold restR;rw [if_pos HAZ.out.2,HAZ.out.1])
       clear hz HAT HLP
       go_wp2_with fail
       go_ret2
       rw [HRZ.out]
       exact ⟨rfl,below_lift HB.out hbel5⟩
     ·have hkl:¬ (k:Int)<(ns.length:Int):=by omega
      have hke:k=ns.length:=by omega
      subst hke
      rw [List.take_of_length_le (by rw [List.length_map];exact Nat.le_refl _)] at hsl hnz ⊢
      have HRZ:=Lib.hid (show R=if (h0 ++ (ns.map (fun x:NodeM=>x.n)).flatMap nodeS ++ [101,110,100,10]).length > 65536 then ([],4) else (h0 ++ (ns.map (fun x:NodeM=>x.n)).flatMap nodeS ++ [101,110,100,10],0) by rw [HRX.out];unfold restR;rw [if_neg (fun h=>h hnz)])
      clear hnz
      generalize h0 ++ (ns.map (fun x:NodeM=>x.n)).flatMap nodeS=S1 at *
      have hle:(S1 ++ [101,110,100,10]).length=S1.length+4:=by rw [List.length_append];rfl
      by_cases hfin:(S1 ++ [101,110,100,10]).length > 65536
      ·have HRF:=Lib.hid (show R=([],4) by rw [HRZ.out,if_pos hfin])
       have f1:(65536:Int)<((S1.length+4:Nat):Int):=by omega
       have f2:(65536:Int)<(S1.length:Int)+4:=by omega
       have f3:65536<S1.length+4:=by omega
       clear hle hfin
       go_wp2_with fail
       go_ret2
       rw [HRF.out]
       exact ⟨rfl,hbw⟩
      ·have HRF:=Lib.hid (show R=(S1 ++ [101,110,100,10],0) by rw [HRZ.out,if_neg hfin])
       have f1:¬ (65536:Int)<((S1.length+4:Nat):Int):=by omega
       have f2:¬ (65536:Int)<(S1.length:Int)+4:=by omega
       have f3:¬ 65536<S1.length+4:=by omega
       clear hle hfin
       go_wp2_with fail
       go_ret2
       rw [HRF.out]
       exact ⟨rfl,hbw⟩
   ·have g1:¬ (0:Int)<(rs.length:Int):=by omega
    have g2:¬ (0:Int)<(us.length:Int):=by omega
    have d1:decide (0<rs.length)=false:=decide_eq_false (by omega)
    have d2:decide (0<us.length)=false:=decide_eq_false (by omega)
    have d3:¬ 0<rs.length:=by omega
    have d4:¬ 0<us.length:=by omega
    have HHX:=Lib.hid (HH1.out rfl)
    clear HH0 HH1 HPP gz1 gz2 HQT
    go_upto_region 8 with fail
    go_wp2_with fail
    have HB4:=Lib.hid (show Below wB.heap.size wB wB from HB0.out)
    clear a0 a1 a2 a3
    go_loopw [4,5,6,7] (fun s i _ _ wr=>∃ k:Nat,k≤ns.length∧i=.int .i64 k∧s=.string (B (h0 ++ ((ns.map (fun x:NodeM=>x.n)).take k).flatMap nodeS))∧nodesE ((ns.map (fun x:NodeM=>x.n)).take k)=0∧Below wB.heap.size wB wr) (fun _ i _ _ _=>ns.length - (intOf i).toNat)
    case atStart=>exact ⟨0,by omega,rfl,by rw [HHX.out];simp,rfl,HB4.out⟩
    case round =>
     clear HB4
     obtain ⟨k,hk,rfl,rfl,hnz,hbel⟩:=hrel
     have hsl:=flat_le nodeS (b:=20000000) ((ns.map (fun x:NodeM=>x.n)).take k) (fun x hx=>by
      obtain ⟨y,hy,rfl⟩:=List.mem_map.1 (List.mem_of_mem_take hx)
      exact HNL.out y hy)
     rw [List.length_take_of_le (by rw [List.length_map];exact hk)] at hsl
     have hsl:(h0 ++ ((ns.map (fun x:NodeM=>x.n)).take k).flatMap nodeS).length≤100000000000:=by rw [List.length_append];omega
     obtain ⟨a0,a1,a2,a3⟩:=cells4 (row_keep HO.out hbel)
     have hbw:=below_lift HB.out hbel
     by_cases hlt:k<ns.length
     ·have hkl:(k:Int)<(ns.length:Int):=by omega
      obtain ⟨g1,o1,hA1,hg1,hx1⟩:=elems NodeM.cells_len (by decide) (show Cells wB A (ns.flatMap NodeM.cells) from HN.out.nodes) (by omega)
      subst hA1
      have hx3:=hx1 k hlt
      have hlm:k<(ns.map (fun x:NodeM=>x.n)).length:=by rw [List.length_map];exact hlt
      have HAT:=Lib.hid (show ((nodeP ns[k].n).2=0→(nodeP ns[k].n).1=nodeS ns[k].n∧nodesE ((ns.map (fun x:NodeM=>x.n)).take (k+1))=0)∧((nodeP ns[k].n).2≠0→nodesE (ns.map (fun x:NodeM=>x.n))=(nodeP ns[k].n).2∧nodesE (ns.map (fun x:NodeM=>x.n))≠0) from by have:=nodeP_at hlm hnz;rw [List.getElem_map] at this;exact this)
      have HTK:=Lib.hid (show (h0 ++ ((ns.map (fun x:NodeM=>x.n)).take k).flatMap nodeS) ++ nodeS ns[k].n=h0 ++ ((ns.map (fun x:NodeM=>x.n)).take (k+1)).flatMap nodeS from by have:=flat_take nodeS hlm;rw [List.getElem_map] at this;rw [List.append_assoc,this])
      have HLN:=Lib.hid (HNL.out _ (List.getElem_mem hlt))
      have HNO:=Lib.hid (HND.out _ (List.getElem_mem hlt) wr hbw)
      clear hx1 hlm hnz
      generalize ns[k]=nd at *
      have c0:=(hbel.cell (p:=⟨g1,o1+k*10,none⟩) hg1).trans (hx3 0 (.bool nd.n.leaf) rfl)
      have c1:=(hbel.cell (p:=⟨g1,o1+k*10+1,none⟩) hg1).trans (hx3 1 (.int .i64 nd.n.kind) rfl)
      have c2:=(hbel.cell (p:=⟨g1,o1+k*10+2,none⟩) hg1).trans (hx3 2 (.slice nd.A nd.n.cuts.length nd.ca) rfl)
      have c3:=(hbel.cell (p:=⟨g1,o1+k*10+3,none⟩) hg1).trans (hx3 3 (.slice nd.C nd.n.dual.length nd.cc) rfl)
      have c4:=(hbel.cell (p:=⟨g1,o1+k*10+4,none⟩) hg1).trans (hx3 4 (.int .i64 nd.n.ck) rfl)
      have c5:=(hbel.cell (p:=⟨g1,o1+k*10+5,none⟩) hg1).trans (hx3 5 (.int .i64 nd.n.ca) rfl)
      have c6:=(hbel.cell (p:=⟨g1,o1+k*10+6,none⟩) hg1).trans (hx3 6 (.int .i64 nd.n.cb) rfl)
      have c7:=(hbel.cell (p:=⟨g1,o1+k*10+7,none⟩) hg1).trans (hx3 7 (.int .i64 nd.n.cn) rfl)
      have c8:=(hbel.cell (p:=⟨g1,o1+k*10+8,none⟩) hg1).trans (hx3 8 (.int .i64 nd.n.yes) rfl)
      have c9:=(hbel.cell (p:=⟨g1,o1+k*10+9,none⟩) hg1).trans (hx3 9 (.int .i64 nd.n.no) rfl)
      clear hx3
      generalize hpe:(nodeP nd.n).2=pe at *
      generalize hps:(nodeP nd.n).1=ps at *
      have HLP:=Lib.hid (show pe=0→ps.length≤20000000 from fun h=>by rw [(HAT.out.1 h).1];exact HLN.out)
      generalize nodeS nd.n=nS at *
      generalize h0 ++ ((ns.map (fun x:NodeM=>x.n)).take k).flatMap nodeS=S1 at *
      clear hpe hps
      go_wp2_with fail
      refine HNO.out.mono ?_
      rintro e w5 ⟨rfl,hb5⟩
      have hbel5:=below_lift hbel hb5
      clear hb5 HNO c0 c1 c2 c3 c4 c5 c6 c7 c8 c9
      by_cases hz:pe=0
      ·have e1:(pe != 0)=false:=by rw [hz];rfl
       have hlp:=HLP.out hz
       have HAZ:=Lib.hid (HAT.out.1 hz)
       clear hz HAT HLP
       go_wp2_with fail
       all_goals first
        |exact ⟨⟨k+1,by omega,by go_num,by rw [← HTK.out,HAZ.out.1],HAZ.out.2,hbel5⟩,by simp [intOf];omega⟩
        |(go_roundw
          case rel=>exact ⟨k+1,by omega,by go_num,by rw [← HTK.out,HAZ.out.1],HAZ.out.2,hbel5⟩
          case measure=>simp [intOf];omega)
      ·have e1:(pe != 0)=true:=by simpa using hz
       have HAZ:=Lib.hid (HAT.out.2 hz)
       have HRZ:=Lib.hid (show R=([],pe) by rw [HRX.out];unfold restR;rw [if_pos HAZ.out.2,HAZ.out.1])
       clear hz HAT HLP
       go_wp2_with fail
       go_ret2
       rw [HRZ.out]
       exact ⟨rfl,below_lift HB.out hbel5⟩
     ·have hkl:¬ (k:Int)<(ns.length:Int):=by omega
      have hke:k=ns.length:=by omega
      subst hke
      rw [List.take_of_length_le (by rw [List.length_map];exact Nat.le_refl _)] at hsl hnz ⊢
      have HRZ:=Lib.hid (show R=if (h0 ++ (ns.map (fun x:NodeM=>x.n)).flatMap nodeS ++ [101,110,100,10]).length > 65536 then ([],4) else (h0 ++ (ns.map (fun x:NodeM=>x.n)).flatMap nodeS ++ [101,110,100,10],0) by rw [HRX.out];unfold restR;rw [if_neg (fun h=>h hnz)])
      clear hnz
      generalize h0 ++ (ns.map (fun x:NodeM=>x.n)).flatMap nodeS=S1 at *
      have hle:(S1 ++ [101,110,100,10]).length=S1.length+4:=by rw [List.length_append];rfl
      by_cases hfin:(S1 ++ [101,110,100,10]).length > 65536
      ·have HRF:=Lib.hid (show R=([],4) by rw [HRZ.out,if_pos hfin])
       have f1:(65536:Int)<((S1.length+4:Nat):Int):=by omega
       have f2:(65536:Int)<(S1.length:Int)+4:=by omega
       have f3:65536<S1.length+4:=by omega
       clear hle hfin
       go_wp2_with fail
       go_ret2
       rw [HRF.out]
       exact ⟨rfl,hbw⟩
      ·have HRF:=Lib.hid (show R=(S1 ++ [101,110,100,10],0) by rw [HRZ.out,if_neg hfin])
       have f1:¬ (65536:Int)<((S1.length+4:Nat):Int):=by omega
       have f2:¬ (65536:Int)<(S1.length:Int)+4:=by omega
       have f3:¬ 65536<S1.length+4:=by omega
       clear hle hfin
       go_wp2_with fail
       go_ret2
       rw [HRF.out]
       exact ⟨rfl,hbw⟩
end Go.Proofs.YtljekdpgjaahjaaGreatDoor

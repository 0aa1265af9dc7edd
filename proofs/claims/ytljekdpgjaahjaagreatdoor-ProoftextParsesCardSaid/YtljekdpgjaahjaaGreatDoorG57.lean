/- lorryref23.SameRoute, lorryref39.nodes. (Printed by wip/ptr.py.) -/
import Derived.Test.YtljekdpgjaahjaaGreatDoorG56
import Derived.Deep.RegionHeld3
namespace Go.Proofs.YtljekdpgjaahjaaGreatDoor
open Go.RowKit Num Txt Pf
set_option linter.unusedVariables false
attribute [local go_sem] B_size B_get B_toList B_mk B_extract B_append
set_option maxHeartbeats 4000000 in
theorem rsameRoute_any (m1 m2:RouM) (w:World) (h1:RouAt w m1) (h2:RouAt w m2) :
  Calls Tryz.prog 50 #[rouA m1,rouA m2] w fun e w'=>e=.returned (.bool (eqv m1.r m2.r))∧Below w.heap.size w w':=by
 obtain ⟨bw,o1,o2⟩:=two_new w (rouB m1) (rouB m2)
 have HC1_rests:=Lib.hid ((h1.below bw).rests)
 have HC2_rests:=Lib.hid ((h2.below bw).rests)
 have HC1_vis:=Lib.hid ((h1.below bw).vis)
 have HC2_vis:=Lib.hid ((h2.below bw).vis)
 have l1rests:=h1.rl
 have l2rests:=h2.rl
 have l1vis:=h1.vl
 have l2vis:=h2.vl
 unfold maxLen at l1rests l2rests l1vis l2vis
 have HN_kind:=Lib.hid (fun (h:m1.r.kind≠m2.r.kind)=>eqv_false (a:=m1.r) (b:=m2.r) (fun e=>h (by rw [e])))
 have HN_start:=Lib.hid (fun (h:m1.r.start≠m2.r.start)=>eqv_false (a:=m1.r) (b:=m2.r) (fun e=>h (by rw [e])))
 have HN_rests:=Lib.hid (fun (h:m1.r.rests≠m2.r.rests)=>eqv_false (a:=m1.r) (b:=m2.r) (fun e=>h (by rw [e])))
 have HN_vis:=Lib.hid (fun (h:m1.r.vis≠m2.r.vis)=>eqv_false (a:=m1.r) (b:=m2.r) (fun e=>h (by rw [e])))
 have HEQ:=Lib.hid (show m1.r=m2.r→eqv m1.r m2.r=true from eqv_true)
 have HB:=Lib.hid bw
 have HO1:=Lib.hid o1
 have HO2:=Lib.hid o2
 clear h1 h2 bw o1 o2
 generalize eqv m1.r m2.r=res at *
 obtain ⟨A,cA,C,cC,⟨kind1,start1,rests1,vis1⟩⟩:=m1
 obtain ⟨A2,cA2,C2,cC2,⟨kind2,start2,rests2,vis2⟩⟩:=m2
 simp only at HC1_rests HC2_rests l1rests l2rests HC1_vis HC2_vis l1vis l2vis HN_kind HN_start HN_rests HN_vis HEQ
 go_enter Tryz.func50,Tryz.ntmps50
 go_upto_region 1 with fail
 generalize ((w.alloc _).alloc _)=wB at *
 have HBS:=Lib.hid (Below.refl wB.heap.size wB)
 have hbel:=Below.refl wB.heap.size wB
 obtain ⟨a0,a1,a2,a3⟩:=cells4 (row_keep HO1.out hbel)
 obtain ⟨b0,b1,b2,b3⟩:=cells4 (row_keep HO2.out hbel)
 by_cases h:kind1=kind2
 ·subst h
  by_cases h:start1=start2
  ·subst h
   by_cases h:rests1.length=rests2.length
   ·have HL_rests:=Lib.hid h
    have elrests:((rests1.length:Int) != (rests2.length:Int))=false:=by rw [h];simp
    clear h
    by_cases h:vis1.length=vis2.length
    ·have HL_vis:=Lib.hid h
     have elvis:((vis1.length:Int) != (vis2.length:Int))=false:=by rw [h];simp
     clear h
     go_wp2_with fail
     clear a0 a1 a2 a3 b0 b1 b2 b3 hbel
     go_loopw [4,5] (fun _ i wr=>∃ k:Nat,k≤rests1.length∧i=.int .i64 k∧EqUp rests1 rests2 k∧Below wB.heap.size wB wr) (fun _ i _=>rests1.length - (intOf i).toNat)
     case atStart=>exact ⟨0,by omega,rfl,EqUp.zero _ _,HBS.out⟩
     case round =>
      obtain ⟨k,hk,rfl,heq,hbel⟩:=hrel
      have HEU:=Lib.hid heq
      have HBL:=Lib.hid hbel
      clear heq HBS
      obtain ⟨a0,a1,a2,a3⟩:=cells4 (row_keep HO1.out hbel)
      obtain ⟨b0,b1,b2,b3⟩:=cells4 (row_keep HO2.out hbel)
      by_cases hlt:k<rests1.length
      ·have hlt2:k<rests2.length:=by have:=HL_rests.out;omega
       obtain ⟨g1,o1,hA1,hg1,hx1⟩:=HC1_rests.out (by rw [boolsP_length];omega)
       obtain ⟨g2,o2,hA2,hg2,hx2⟩:=HC2_rests.out (by rw [boolsP_length];omega)
       rw [hA1] at a2
       rw [hA2] at b2
       clear hA1 hA2
       have x0:wr.cell? ⟨g1,o1+k,none⟩=some (.bool rests1[k]):=(hbel.cell (p:=⟨g1,o1+k,none⟩) hg1).trans (hx1 k _ (boolsP_at rests1 k hlt))
       have y0:wr.cell? ⟨g2,o2+k,none⟩=some (.bool rests2[k]):=(hbel.cell (p:=⟨g2,o2+k,none⟩) hg2).trans (hx2 k _ (boolsP_at rests2 k hlt2))
       have HG:=Lib.hid (List.getElem?_eq_getElem hlt)
       have HG2:=Lib.hid (List.getElem?_eq_getElem hlt2)
       have hkl:(k:Int)<(rests1.length:Int):=by omega
       have hkl2:(k:Int)<(rests2.length:Int):=by omega
       clear hx1 hx2
       by_cases hxy:rests1[k]=rests2[k]
       ·have HN:=Lib.hid (HEU.out.succ (by rw [HG.out,HG2.out,hxy]))
        rw [hxy] at x0
        clear hxy HG HG2
        generalize rests2[k]=v0 at *
        have e1v:(v0 != v0)=false:=by simp
        go_wp2_with fail
        go_quiet (fail)
        have hb0:=below_drewN hbel nq
        go_wp2_with fail
        all_goals first
         |(go_roundw
           case rel=>exact ⟨k+1,by omega,by go_num,HN.out,hb0⟩
           case measure=>simp [intOf];omega)
         |exact ⟨⟨k+1,by omega,by go_num,HN.out,hb0⟩,by simp [intOf];omega⟩
       ·have hne:=HN_rests.out (neq_get (xs:=rests1) (ys:=rests2) (k:=k) (by rw [HG.out,HG2.out];exact fun e=>hxy (by injection e)))
        have HR:=Lib.hid hne
        clear HG HG2 hne
        have n0:rests1[k]≠rests2[k]:=fun h0=>hxy (h0)
        have e0x:(rests1[k] == rests2[k])=false:=by rw [beq_eq_false_iff_ne];exact n0
        have e0y:(rests1[k] != rests2[k])=true:=by rw [bne_iff_ne];exact n0
        clear hxy  n0
        generalize rests1[k]=u0 at *
        generalize rests2[k]=v0 at *
        have e0z:(!(u0 == v0))=true:=by rw [e0x];rfl
        go_wp2_with fail
        go_quiet (fail)
        have hb0:=below_drewN hbel nq
        go_wp2_with fail
        go_ret
        rw [HR.out]
        exact ⟨rfl,below_lift HB.out hb0⟩
      ·have hkx:¬ (k:Int)<(rests1.length:Int):=by omega
       have HF_rests:=Lib.hid (HEU.out.all (by omega) HL_rests.out)
       have HBS:=Lib.hid hbel
       go_wp2_with fail
       clear a0 a1 a2 a3 b0 b1 b2 b3 hbel HBL HEU hk hkx hlt
       go_loopw [4,6] (fun _ i wr=>∃ k:Nat,k≤vis1.length∧i=.int .i64 k∧EqUp vis1 vis2 k∧Below wB.heap.size wB wr) (fun _ i _=>vis1.length - (intOf i).toNat)
       case atStart=>exact ⟨0,by omega,rfl,EqUp.zero _ _,HBS.out⟩
       case round =>
        obtain ⟨k,hk,rfl,heq,hbel⟩:=hrel
        have HEU:=Lib.hid heq
        have HBL:=Lib.hid hbel
        clear heq HBS
        obtain ⟨a0,a1,a2,a3⟩:=cells4 (row_keep HO1.out hbel)
        obtain ⟨b0,b1,b2,b3⟩:=cells4 (row_keep HO2.out hbel)
        by_cases hlt:k<vis1.length
        ·have hlt2:k<vis2.length:=by have:=HL_vis.out;omega
         obtain ⟨g1,o1,hA1,hg1,hx1⟩:=elems visC_len (by decide) HC1_vis.out (by omega)
         obtain ⟨g2,o2,hA2,hg2,hx2⟩:=elems visC_len (by decide) HC2_vis.out (by omega)
         rw [hA1] at a3
         rw [hA2] at b3
         clear hA1 hA2
         have x0:wr.cell? ⟨g1,o1+k*2,none⟩=some (.int .i64 vis1[k].1):=(hbel.cell (p:=⟨g1,o1+k*2,none⟩) hg1).trans (hx1 k hlt 0 _ rfl)
         have x1:wr.cell? ⟨g1,o1+k*2+1,none⟩=some (.bool vis1[k].2):=(hbel.cell (p:=⟨g1,o1+k*2+1,none⟩) hg1).trans (hx1 k hlt 1 _ rfl)
         have y0:wr.cell? ⟨g2,o2+k*2,none⟩=some (.int .i64 vis2[k].1):=(hbel.cell (p:=⟨g2,o2+k*2,none⟩) hg2).trans (hx2 k hlt2 0 _ rfl)
         have y1:wr.cell? ⟨g2,o2+k*2+1,none⟩=some (.bool vis2[k].2):=(hbel.cell (p:=⟨g2,o2+k*2+1,none⟩) hg2).trans (hx2 k hlt2 1 _ rfl)
         have HG:=Lib.hid (List.getElem?_eq_getElem hlt)
         have HG2:=Lib.hid (List.getElem?_eq_getElem hlt2)
         have hkl:(k:Int)<(vis1.length:Int):=by omega
         have hkl2:(k:Int)<(vis2.length:Int):=by omega
         clear hx1 hx2
         by_cases hxy:vis1[k]=vis2[k]
         ·have HN:=Lib.hid (HEU.out.succ (by rw [HG.out,HG2.out,hxy]))
          rw [hxy] at x0 x1
          clear hxy HG HG2
          generalize vis2[k].1=v0 at *
          generalize vis2[k].2=v1 at *
          have e1v:(v0 != v0)=false:=by simp
          go_wp2_with fail
          go_quiet (fail)
          have hb0:=below_drewN hbel nq
          go_wp2_with fail
          all_goals first
           |(go_roundw
             case rel=>exact ⟨k+1,by omega,by go_num,HN.out,hb0⟩
             case measure=>simp [intOf];omega)
           |exact ⟨⟨k+1,by omega,by go_num,HN.out,hb0⟩,by simp [intOf];omega⟩
         ·have hne:=HN_vis.out (neq_get (xs:=vis1) (ys:=vis2) (k:=k) (by rw [HG.out,HG2.out];exact fun e=>hxy (by injection e)))
          have HR:=Lib.hid hne
          clear HG HG2 hne
          by_cases h0:vis1[k].1=vis2[k].1
          ·skip
           have n1:vis1[k].2≠vis2[k].2:=fun h1=>hxy (Prod.ext h0 (h1))
           have e1x:(vis1[k].2 == vis2[k].2)=false:=by rw [beq_eq_false_iff_ne];exact n1
           have e1y:(vis1[k].2 != vis2[k].2)=true:=by rw [bne_iff_ne];exact n1
           rw [h0] at x0
           clear hxy h0 n1
           generalize vis1[k].2=u1 at *
           generalize vis2[k].1=v0 at *
           generalize vis2[k].2=v1 at *
           go_wp2_with fail
           go_quiet (fail)
           have hb0:=below_drewN hbel nq
           go_wp2_with fail
           go_ret
           rw [HR.out]
           exact ⟨rfl,below_lift HB.out hb0⟩
          ·have n0:vis1[k].1≠vis2[k].1:=h0
           have e0x:(vis1[k].1 == vis2[k].1)=false:=by rw [beq_eq_false_iff_ne];exact n0
           have e0y:(vis1[k].1 != vis2[k].1)=true:=by rw [bne_iff_ne];exact n0
           clear hxy  n0
           generalize vis1[k].1=u0 at *
           generalize vis1[k].2=u1 at *
           generalize vis2[k].1=v0 at *
           generalize vis2[k].2=v1 at *
           go_wp2_with fail
           go_quiet (fail)
           have hb0:=below_drewN hbel nq
           go_wp2_with fail
           go_ret
           rw [HR.out]
           exact ⟨rfl,below_lift HB.out hb0⟩
        ·have hkx:¬ (k:Int)<(vis1.length:Int):=by omega
         have HF_vis:=Lib.hid (HEU.out.all (by omega) HL_vis.out)
         have HR:=Lib.hid (HEQ.out (rou_ext rfl rfl HF_rests.out HF_vis.out))
         go_wp2_with fail
         go_ret
         rw [HR.out]
         exact ⟨rfl,below_lift HB.out hbel⟩
    ·have hx:=HN_vis.out (fun e=>h (by rw [e]))
     subst hx
     have e1:((vis1.length:Int) != (vis2.length:Int))=true:=by rw [bne_iff_ne];omega
     clear h
     go_wp2_with fail
     go_ret
     exact ⟨rfl,HB.out⟩
   ·have hx:=HN_rests.out (fun e=>h (by rw [e]))
    subst hx
    have e1:((rests1.length:Int) != (rests2.length:Int))=true:=by rw [bne_iff_ne];omega
    clear h
    go_wp2_with fail
    go_ret
    exact ⟨rfl,HB.out⟩
  ·have hx:=HN_start.out h
   subst hx
   have e1:(start1 != start2)=true:=by rw [bne_iff_ne];exact h
   have e2:(start1 == start2)=false:=by rw [beq_eq_false_iff_ne];exact h
   have e3:(!(start1 == start2))=true:=by rw [e2];rfl
   clear h
   go_wp2_with fail
   go_ret
   exact ⟨rfl,HB.out⟩
 ·have hx:=HN_kind.out h
  subst hx
  have e1:(kind1 != kind2)=true:=by rw [bne_iff_ne];exact h
  have e2:(kind1 == kind2)=false:=by rw [beq_eq_false_iff_ne];exact h
  have e3:(!(kind1 == kind2))=true:=by rw [e2];rfl
  clear h
  go_wp2_with fail
  go_ret
  exact ⟨rfl,HB.out⟩
set_option maxHeartbeats 4000000 in
theorem rnodes_any (m1 m2:NodeM) (w:World) (h1:NodeAt w m1) (h2:NodeAt w m2) :
  Calls Tryz.prog 41 #[nodeA m1,nodeA m2] w fun e w'=>e=.returned (.bool (eqv m1.n m2.n))∧Below w.heap.size w w':=by
 obtain ⟨bw,o1,o2⟩:=two_new w (nodeB m1) (nodeB m2)
 have HC1_cuts:=Lib.hid ((h1.below bw).cuts)
 have HC2_cuts:=Lib.hid ((h2.below bw).cuts)
 have HC1_dual:=Lib.hid ((h1.below bw).dual)
 have HC2_dual:=Lib.hid ((h2.below bw).dual)
 have l1cuts:=h1.cl
 have l2cuts:=h2.cl
 have l1dual:=h1.dl
 have l2dual:=h2.dl
 unfold maxLen at l1cuts l2cuts l1dual l2dual
 have HN_leaf:=Lib.hid (fun (h:m1.n.leaf≠m2.n.leaf)=>eqv_false (a:=m1.n) (b:=m2.n) (fun e=>h (by rw [e])))
 have HN_kind:=Lib.hid (fun (h:m1.n.kind≠m2.n.kind)=>eqv_false (a:=m1.n) (b:=m2.n) (fun e=>h (by rw [e])))
 have HN_ck:=Lib.hid (fun (h:m1.n.ck≠m2.n.ck)=>eqv_false (a:=m1.n) (b:=m2.n) (fun e=>h (by rw [e])))
 have HN_ca:=Lib.hid (fun (h:m1.n.ca≠m2.n.ca)=>eqv_false (a:=m1.n) (b:=m2.n) (fun e=>h (by rw [e])))
 have HN_cb:=Lib.hid (fun (h:m1.n.cb≠m2.n.cb)=>eqv_false (a:=m1.n) (b:=m2.n) (fun e=>h (by rw [e])))
 have HN_cn:=Lib.hid (fun (h:m1.n.cn≠m2.n.cn)=>eqv_false (a:=m1.n) (b:=m2.n) (fun e=>h (by rw [e])))
 have HN_yes:=Lib.hid (fun (h:m1.n.yes≠m2.n.yes)=>eqv_false (a:=m1.n) (b:=m2.n) (fun e=>h (by rw [e])))
 have HN_no:=Lib.hid (fun (h:m1.n.no≠m2.n.no)=>eqv_false (a:=m1.n) (b:=m2.n) (fun e=>h (by rw [e])))
 have HN_cuts:=Lib.hid (fun (h:m1.n.cuts≠m2.n.cuts)=>eqv_false (a:=m1.n) (b:=m2.n) (fun e=>h (by rw [e])))
 have HN_dual:=Lib.hid (fun (h:m1.n.dual≠m2.n.dual)=>eqv_false (a:=m1.n) (b:=m2.n) (fun e=>h (by rw [e])))
 have HEQ:=Lib.hid (show m1.n=m2.n→eqv m1.n m2.n=true from eqv_true)
 have HB:=Lib.hid bw
 have HO1:=Lib.hid o1
 have HO2:=Lib.hid o2
 clear h1 h2 bw o1 o2
 generalize eqv m1.n m2.n=res at *
 obtain ⟨A,cA,C,cC,⟨leaf1,kind1,cuts1,dual1,ck1,ca1,cb1,cn1,yes1,no1⟩⟩:=m1
 obtain ⟨A2,cA2,C2,cC2,⟨leaf2,kind2,cuts2,dual2,ck2,ca2,cb2,cn2,yes2,no2⟩⟩:=m2
 simp only at HC1_cuts HC2_cuts l1cuts l2cuts HC1_dual HC2_dual l1dual l2dual HN_leaf HN_kind HN_ck HN_ca HN_cb HN_cn HN_yes HN_no HN_cuts HN_dual HEQ
 go_enter Tryz.func41,Tryz.ntmps41
 go_upto_region 1 with fail
 generalize ((w.alloc _).alloc _)=wB at *
 have HBS:=Lib.hid (Below.refl wB.heap.size wB)
 have hbel:=Below.refl wB.heap.size wB
 obtain ⟨a0,a1,a2,a3,a4,a5,a6,a7,a8,a9⟩:=cells10 (row_keep HO1.out hbel)
 obtain ⟨b0,b1,b2,b3,b4,b5,b6,b7,b8,b9⟩:=cells10 (row_keep HO2.out hbel)
 by_cases h:leaf1=leaf2
 ·subst h
  by_cases h:kind1=kind2
  ·subst h
   by_cases h:ck1=ck2
   ·subst h
    by_cases h:ca1=ca2
    ·subst h
     by_cases h:cb1=cb2
     ·subst h
      by_cases h:cn1=cn2
      ·subst h
       by_cases h:yes1=yes2
       ·subst h
        by_cases h:no1=no2
        ·subst h
         by_cases h:cuts1.length=cuts2.length
         ·have HL_cuts:=Lib.hid h
          have elcuts:((cuts1.length:Int) != (cuts2.length:Int))=false:=by rw [h];simp
          clear h
          by_cases h:dual1.length=dual2.length
          ·have HL_dual:=Lib.hid h
           have eldual:((dual1.length:Int) != (dual2.length:Int))=false:=by rw [h];simp
           clear h
           go_wp2_with fail
           clear a0 a1 a2 a3 a4 a5 a6 a7 a8 a9 b0 b1 b2 b3 b4 b5 b6 b7 b8 b9 hbel
           go_loopw [4,5] (fun _ i wr=>∃ k:Nat,k≤cuts1.length∧i=.int .i64 k∧EqUp cuts1 cuts2 k∧Below wB.heap.size wB wr) (fun _ i _=>cuts1.length - (intOf i).toNat)
           case atStart=>exact ⟨0,by omega,rfl,EqUp.zero _ _,HBS.out⟩
           case round =>
            obtain ⟨k,hk,rfl,heq,hbel⟩:=hrel
            have HEU:=Lib.hid heq
            have HBL:=Lib.hid hbel
            clear heq HBS
            obtain ⟨a0,a1,a2,a3,a4,a5,a6,a7,a8,a9⟩:=cells10 (row_keep HO1.out hbel)
            obtain ⟨b0,b1,b2,b3,b4,b5,b6,b7,b8,b9⟩:=cells10 (row_keep HO2.out hbel)
            by_cases hlt:k<cuts1.length
            ·have hlt2:k<cuts2.length:=by have:=HL_cuts.out;omega
             obtain ⟨g1,o1,hA1,hg1,hx1⟩:=elems cutC_len (by decide) HC1_cuts.out (by omega)
             obtain ⟨g2,o2,hA2,hg2,hx2⟩:=elems cutC_len (by decide) HC2_cuts.out (by omega)
             rw [hA1] at a2
             rw [hA2] at b2
             clear hA1 hA2
             have x0:wr.cell? ⟨g1,o1+k*3,none⟩=some (.int .i64 cuts1[k].1):=(hbel.cell (p:=⟨g1,o1+k*3,none⟩) hg1).trans (hx1 k hlt 0 _ rfl)
             have x1:wr.cell? ⟨g1,o1+k*3+1,none⟩=some (.int .i64 cuts1[k].2.1):=(hbel.cell (p:=⟨g1,o1+k*3+1,none⟩) hg1).trans (hx1 k hlt 1 _ rfl)
             have x2:wr.cell? ⟨g1,o1+k*3+2,none⟩=some (.int .i64 cuts1[k].2.2):=(hbel.cell (p:=⟨g1,o1+k*3+2,none⟩) hg1).trans (hx1 k hlt 2 _ rfl)
             have y0:wr.cell? ⟨g2,o2+k*3,none⟩=some (.int .i64 cuts2[k].1):=(hbel.cell (p:=⟨g2,o2+k*3,none⟩) hg2).trans (hx2 k hlt2 0 _ rfl)
             have y1:wr.cell? ⟨g2,o2+k*3+1,none⟩=some (.int .i64 cuts2[k].2.1):=(hbel.cell (p:=⟨g2,o2+k*3+1,none⟩) hg2).trans (hx2 k hlt2 1 _ rfl)
             have y2:wr.cell? ⟨g2,o2+k*3+2,none⟩=some (.int .i64 cuts2[k].2.2):=(hbel.cell (p:=⟨g2,o2+k*3+2,none⟩) hg2).trans (hx2 k hlt2 2 _ rfl)
             have HG:=Lib.hid (List.getElem?_eq_getElem hlt)
             have HG2:=Lib.hid (List.getElem?_eq_getElem hlt2)
             have hkl:(k:Int)<(cuts1.length:Int):=by omega
             have hkl2:(k:Int)<(cuts2.length:Int):=by omega
             clear hx1 hx2
             by_cases hxy:cuts1[k]=cuts2[k]
             ·have HN:=Lib.hid (HEU.out.succ (by rw [HG.out,HG2.out,hxy]))
              rw [hxy] at x0 x1 x2
              clear hxy HG HG2
              generalize cuts2[k].1=v0 at *
              generalize cuts2[k].2.1=v1 at *
              generalize cuts2[k].2.2=v2 at *
              have e1v:(v0 != v0)=false:=by simp
              go_wp2_with fail
              go_quiet (fail)
              have hb0:=below_drewN hbel nq
              go_wp2_with fail
              all_goals first
               |(go_roundw
                 case rel=>exact ⟨k+1,by omega,by go_num,HN.out,hb0⟩
                 case measure=>simp [intOf];omega)
               |exact ⟨⟨k+1,by omega,by go_num,HN.out,hb0⟩,by simp [intOf];omega⟩
             ·have hne:=HN_cuts.out (neq_get (xs:=cuts1) (ys:=cuts2) (k:=k) (by rw [HG.out,HG2.out];exact fun e=>hxy (by injection e)))
              have HR:=Lib.hid hne
              clear HG HG2 hne
              by_cases h0:cuts1[k].1=cuts2[k].1
              ·skip
               by_cases h1:cuts1[k].2.1=cuts2[k].2.1
               ·skip
                have n2:cuts1[k].2.2≠cuts2[k].2.2:=fun h2=>hxy (Prod.ext h0 (Prod.ext h1 (h2)))
                have e2x:(cuts1[k].2.2 == cuts2[k].2.2)=false:=by rw [beq_eq_false_iff_ne];exact n2
                have e2y:(cuts1[k].2.2 != cuts2[k].2.2)=true:=by rw [bne_iff_ne];exact n2
                rw [h0] at x0
                rw [h1] at x1
                clear hxy h0 h1 n2
                generalize cuts1[k].2.2=u2 at *
                generalize cuts2[k].1=v0 at *
                generalize cuts2[k].2.1=v1 at *
                generalize cuts2[k].2.2=v2 at *
                go_wp2_with fail
                go_quiet (fail)
                have hb0:=below_drewN hbel nq
                go_wp2_with fail
                go_ret
                rw [HR.out]
                exact ⟨rfl,below_lift HB.out hb0⟩
               ·have n1:cuts1[k].2.1≠cuts2[k].2.1:=h1
                have e1x:(cuts1[k].2.1 == cuts2[k].2.1)=false:=by rw [beq_eq_false_iff_ne];exact n1
                have e1y:(cuts1[k].2.1 != cuts2[k].2.1)=true:=by rw [bne_iff_ne];exact n1
                rw [h0] at x0
                clear hxy h0 n1
                generalize cuts1[k].2.1=u1 at *
                generalize cuts1[k].2.2=u2 at *
                generalize cuts2[k].1=v0 at *
                generalize cuts2[k].2.1=v1 at *
                generalize cuts2[k].2.2=v2 at *
                go_wp2_with fail
                go_quiet (fail)
                have hb0:=below_drewN hbel nq
                go_wp2_with fail
                go_ret
                rw [HR.out]
                exact ⟨rfl,below_lift HB.out hb0⟩
              ·have n0:cuts1[k].1≠cuts2[k].1:=h0
               have e0x:(cuts1[k].1 == cuts2[k].1)=false:=by rw [beq_eq_false_iff_ne];exact n0
               have e0y:(cuts1[k].1 != cuts2[k].1)=true:=by rw [bne_iff_ne];exact n0
               clear hxy  n0
               generalize cuts1[k].1=u0 at *
               generalize cuts1[k].2.1=u1 at *
               generalize cuts1[k].2.2=u2 at *
               generalize cuts2[k].1=v0 at *
               generalize cuts2[k].2.1=v1 at *
               generalize cuts2[k].2.2=v2 at *
               go_wp2_with fail
               go_quiet (fail)
               have hb0:=below_drewN hbel nq
               go_wp2_with fail
               go_ret
               rw [HR.out]
               exact ⟨rfl,below_lift HB.out hb0⟩
            ·have hkx:¬ (k:Int)<(cuts1.length:Int):=by omega
             have HF_cuts:=Lib.hid (HEU.out.all (by omega) HL_cuts.out)
             have HBS:=Lib.hid hbel
             go_wp2_with fail
             clear a0 a1 a2 a3 a4 a5 a6 a7 a8 a9 b0 b1 b2 b3 b4 b5 b6 b7 b8 b9 hbel HBL HEU hk hkx hlt
             go_loopw [4,6] (fun _ i wr=>∃ k:Nat,k≤dual1.length∧i=.int .i64 k∧EqUp dual1 dual2 k∧Below wB.heap.size wB wr) (fun _ i _=>dual1.length - (intOf i).toNat)
             case atStart=>exact ⟨0,by omega,rfl,EqUp.zero _ _,HBS.out⟩
             case round =>
              obtain ⟨k,hk,rfl,heq,hbel⟩:=hrel
              have HEU:=Lib.hid heq
              have HBL:=Lib.hid hbel
              clear heq HBS
              obtain ⟨a0,a1,a2,a3,a4,a5,a6,a7,a8,a9⟩:=cells10 (row_keep HO1.out hbel)
              obtain ⟨b0,b1,b2,b3,b4,b5,b6,b7,b8,b9⟩:=cells10 (row_keep HO2.out hbel)
              by_cases hlt:k<dual1.length
              ·have hlt2:k<dual2.length:=by have:=HL_dual.out;omega
               obtain ⟨g1,o1,hA1,hg1,hx1⟩:=HC1_dual.out (by rw [strs_length];omega)
               obtain ⟨g2,o2,hA2,hg2,hx2⟩:=HC2_dual.out (by rw [strs_length];omega)
               rw [hA1] at a3
               rw [hA2] at b3
               clear hA1 hA2
               have x0:wr.cell? ⟨g1,o1+k,none⟩=some (.string (B dual1[k])):=(hbel.cell (p:=⟨g1,o1+k,none⟩) hg1).trans (hx1 k _ (strs_at dual1 k hlt))
               have y0:wr.cell? ⟨g2,o2+k,none⟩=some (.string (B dual2[k])):=(hbel.cell (p:=⟨g2,o2+k,none⟩) hg2).trans (hx2 k _ (strs_at dual2 k hlt2))
               have HG:=Lib.hid (List.getElem?_eq_getElem hlt)
               have HG2:=Lib.hid (List.getElem?_eq_getElem hlt2)
               have hkl:(k:Int)<(dual1.length:Int):=by omega
               have hkl2:(k:Int)<(dual2.length:Int):=by omega
               clear hx1 hx2
               by_cases hxy:dual1[k]=dual2[k]
               ·have HN:=Lib.hid (HEU.out.succ (by rw [HG.out,HG2.out,hxy]))
                rw [hxy] at x0
                clear hxy HG HG2
                generalize dual2[k]=v0 at *
                have e1v:(v0 != v0)=false:=by simp
                go_wp2_with fail
                go_quiet (fail)
                have hb0:=below_drewN hbel nq
                go_wp2_with fail
                all_goals first
                 |(go_roundw
                   case rel=>exact ⟨k+1,by omega,by go_num,HN.out,hb0⟩
                   case measure=>simp [intOf];omega)
                 |exact ⟨⟨k+1,by omega,by go_num,HN.out,hb0⟩,by simp [intOf];omega⟩
               ·have hne:=HN_dual.out (neq_get (xs:=dual1) (ys:=dual2) (k:=k) (by rw [HG.out,HG2.out];exact fun e=>hxy (by injection e)))
                have HR:=Lib.hid hne
                clear HG HG2 hne
                have n0:dual1[k]≠dual2[k]:=fun h0=>hxy (h0)
                have e0x:(dual1[k] == dual2[k])=false:=by rw [beq_eq_false_iff_ne];exact n0
                have e0y:(dual1[k] != dual2[k])=true:=by rw [bne_iff_ne];exact n0
                clear hxy  n0
                generalize dual1[k]=u0 at *
                generalize dual2[k]=v0 at *
                have e0z:(!(u0 == v0))=true:=by rw [e0x];rfl
                go_wp2_with fail
                go_quiet (fail)
                have hb0:=below_drewN hbel nq
                go_wp2_with fail
                go_ret
                rw [HR.out]
                exact ⟨rfl,below_lift HB.out hb0⟩
              ·have hkx:¬ (k:Int)<(dual1.length:Int):=by omega
               have HF_dual:=Lib.hid (HEU.out.all (by omega) HL_dual.out)
               have HR:=Lib.hid (HEQ.out (node_ext rfl rfl HF_cuts.out HF_dual.out rfl rfl rfl rfl rfl rfl))
               go_wp2_with fail
               go_ret
               rw [HR.out]
               exact ⟨rfl,below_lift HB.out hbel⟩
          ·have hx:=HN_dual.out (fun e=>h (by rw [e]))
           subst hx
           have e1:((dual1.length:Int) != (dual2.length:Int))=true:=by rw [bne_iff_ne];omega
           clear h
           go_wp2_with fail
           go_ret
           exact ⟨rfl,HB.out⟩
         ·have hx:=HN_cuts.out (fun e=>h (by rw [e]))
          subst hx
          have e1:((cuts1.length:Int) != (cuts2.length:Int))=true:=by rw [bne_iff_ne];omega
          clear h
          go_wp2_with fail
          go_ret
          exact ⟨rfl,HB.out⟩
        ·have hx:=HN_no.out h
         subst hx
         have e1:(no1 != no2)=true:=by rw [bne_iff_ne];exact h
         have e2:(no1 == no2)=false:=by rw [beq_eq_false_iff_ne];exact h
         have e3:(!(no1 == no2))=true:=by rw [e2];rfl
         clear h
         go_wp2_with fail
         go_ret
         exact ⟨rfl,HB.out⟩
       ·have hx:=HN_yes.out h
        subst hx
        have e1:(yes1 != yes2)=true:=by rw [bne_iff_ne];exact h
        have e2:(yes1 == yes2)=false:=by rw [beq_eq_false_iff_ne];exact h
        have e3:(!(yes1 == yes2))=true:=by rw [e2];rfl
        clear h
        go_wp2_with fail
        go_ret
        exact ⟨rfl,HB.out⟩
      ·have hx:=HN_cn.out h
       subst hx
       have e1:(cn1 != cn2)=true:=by rw [bne_iff_ne];exact h
       have e2:(cn1 == cn2)=false:=by rw [beq_eq_false_iff_ne];exact h
       have e3:(!(cn1 == cn2))=true:=by rw [e2];rfl
       clear h
       go_wp2_with fail
       go_ret
       exact ⟨rfl,HB.out⟩
     ·have hx:=HN_cb.out h
      subst hx
      have e1:(cb1 != cb2)=true:=by rw [bne_iff_ne];exact h
      have e2:(cb1 == cb2)=false:=by rw [beq_eq_false_iff_ne];exact h
      have e3:(!(cb1 == cb2))=true:=by rw [e2];rfl
      clear h
      go_wp2_with fail
      go_ret
      exact ⟨rfl,HB.out⟩
    ·have hx:=HN_ca.out h
     subst hx
     have e1:(ca1 != ca2)=true:=by rw [bne_iff_ne];exact h
     have e2:(ca1 == ca2)=false:=by rw [beq_eq_false_iff_ne];exact h
     have e3:(!(ca1 == ca2))=true:=by rw [e2];rfl
     clear h
     go_wp2_with fail
     go_ret
     exact ⟨rfl,HB.out⟩
   ·have hx:=HN_ck.out h
    subst hx
    have e1:(ck1 != ck2)=true:=by rw [bne_iff_ne];exact h
    have e2:(ck1 == ck2)=false:=by rw [beq_eq_false_iff_ne];exact h
    have e3:(!(ck1 == ck2))=true:=by rw [e2];rfl
    clear h
    go_wp2_with fail
    go_ret
    exact ⟨rfl,HB.out⟩
  ·have hx:=HN_kind.out h
   subst hx
   have e1:(kind1 != kind2)=true:=by rw [bne_iff_ne];exact h
   have e2:(kind1 == kind2)=false:=by rw [beq_eq_false_iff_ne];exact h
   have e3:(!(kind1 == kind2))=true:=by rw [e2];rfl
   clear h
   go_wp2_with fail
   go_ret
   exact ⟨rfl,HB.out⟩
 ·have hx:=HN_leaf.out h
  subst hx
  have e1:(leaf1 != leaf2)=true:=by rw [bne_iff_ne];exact h
  have e2:(leaf1 == leaf2)=false:=by rw [beq_eq_false_iff_ne];exact h
  have e3:(!(leaf1 == leaf2))=true:=by rw [e2];rfl
  clear h
  go_wp2_with fail
  go_ret
  exact ⟨rfl,HB.out⟩
set_option maxHeartbeats 8000000 in
theorem rSame_any (m1 m2:PlanM) (w:World) (h1:PlanAt w m1) (h2:PlanAt w m2) :
  Calls Tryz.prog 19 #[planA m1,planA m2] w fun e w'=>e=.returned (.bool (eqv m1.v m2.v))∧Below w.heap.size w w':=by
 obtain ⟨bw,o1,o2⟩:=two_new w (planB m1) (planB m2)
 have HC1:=Lib.hid (h1.below bw).rous
 have HC2:=Lib.hid (h2.below bw).rous
 have HU1:=Lib.hid (h1.below bw).uns
 have HU2:=Lib.hid (h2.below bw).uns
 have HE1:=Lib.hid (h1.below bw).each
 have HE2:=Lib.hid (h2.below bw).each
 have l1:=h1.rl
 have l2:=h2.rl
 have l3:=h1.ul
 have l4:=h2.ul
 unfold maxLen at l1 l2 l3 l4
 have HNR:=Lib.hid (fun (h:m1.rs.map (·.r)≠m2.rs.map (·.r))=>eqv_false (a:=m1.v) (b:=m2.v) (fun e=>h (by have:=congrArg PlanV.rous e;exact this)))
 have HNU:=Lib.hid (fun (h:m1.us≠m2.us)=>eqv_false (a:=m1.v) (b:=m2.v) (fun e=>h (by have:=congrArg PlanV.uns e;exact this)))
 have HEQ:=Lib.hid (fun (ha:m1.rs.map (·.r)=m2.rs.map (·.r)) (hb:m1.us=m2.us)=>eqv_true (show m1.v=m2.v by unfold PlanM.v;rw [ha,hb]))
 have HB:=Lib.hid bw
 have HO1:=Lib.hid o1
 have HO2:=Lib.hid o2
 clear h1 h2 bw o1 o2
 generalize eqv m1.v m2.v=res at *
 obtain ⟨A,cA,xs,C,cC,us⟩:=m1
 obtain ⟨A2,cA2,ys,C2,cC2,vs⟩:=m2
 simp only at HC1 HC2 HU1 HU2 HE1 HE2 l1 l2 l3 l4 HNR HNU HEQ
 go_enter Tryz.func19,Tryz.ntmps19
 go_upto_region 1 with fail
 generalize ((w.alloc _).alloc _)=wB at *
 have HBS:=Lib.hid (Below.refl wB.heap.size wB)
 obtain ⟨a0,a1⟩:=cells2 HO1.out
 obtain ⟨b0,b1⟩:=cells2 HO2.out
 by_cases hl:xs.length=ys.length
 ·by_cases hu:us.length=vs.length
  ·have HL:=Lib.hid hl
   have HLU:=Lib.hid hu
   have e1:((xs.length:Int) != (ys.length:Int))=false:=by rw [hl];simp
   have e2:((us.length:Int) != (vs.length:Int))=false:=by rw [hu];simp
   clear hl hu
   go_wp2_with fail
   clear a0 a1 b0 b1
   go_loopw [4,5] (fun _ i wr=>∃ k:Nat,k≤xs.length∧i=.int .i64 k∧EqUp (xs.map (·.r)) (ys.map (·.r)) k∧Below wB.heap.size wB wr) (fun _ i _=>xs.length - (intOf i).toNat)
   case atStart=>exact ⟨0,by omega,rfl,EqUp.zero _ _,HBS.out⟩
   case round =>
    obtain ⟨k,hk,rfl,heq,hbel⟩:=hrel
    have HEU:=Lib.hid heq
    have HBL:=Lib.hid hbel
    clear heq HBS
    obtain ⟨a0,a1⟩:=cells2 (row_keep HO1.out hbel)
    obtain ⟨b0,b1⟩:=cells2 (row_keep HO2.out hbel)
    by_cases hlt:k<xs.length
    ·have hlt2:k<ys.length:=by have:=HL.out;omega
     obtain ⟨g1,o1,hA1,hg1,hx1⟩:=elems RouM.cells_len (by decide) HC1.out (by omega)
     obtain ⟨g2,o2,hA2,hg2,hx2⟩:=elems RouM.cells_len (by decide) HC2.out (by omega)
     rw [hA1] at a0
     rw [hA2] at b0
     have g3:=map_get (·.r) hlt
     have g4:=map_get (·.r) hlt2
     have rx:=HE1.out _ (List.getElem_mem hlt)
     have ry:=HE2.out _ (List.getElem_mem hlt2)
     have hx3:=hx1 k hlt
     have hx4:=hx2 k hlt2
     have HG1:=Lib.hid g3
     have HG2:=Lib.hid g4
     have HRX:=Lib.hid rx
     have HRY:=Lib.hid ry
     clear g3 g4 rx ry hx1 hx2
     generalize xs[k]=e1 at *
     generalize ys[k]=e2 at *
     have hkl:(k:Int)<(xs.length:Int):=by omega
     have hkl2:(k:Int)<(ys.length:Int):=by omega
     have HOA:=Lib.hid (hA1 ▸ HO1.out)
     have HOB:=Lib.hid (hA2 ▸ HO2.out)
     have HALL:=Lib.hid (fun w' (h:Below wB.heap.size wB w')=>show Below wB.heap.size wB w'∧w'.cell? ⟨w.heap.size,0,none⟩=some (.slice (some ⟨g1,o1,none⟩) xs.length cA)∧w'.cell? ⟨w.heap.size+1,0,none⟩=some (.slice (some ⟨g2,o2,none⟩) ys.length cA2)∧w'.cell? ⟨g1,o1+k*4,none⟩=some (.int .i64 e1.r.kind)∧w'.cell? ⟨g1,o1+k*4+1,none⟩=some (.int .i64 e1.r.start)∧w'.cell? ⟨g1,o1+k*4+2,none⟩=some (.slice e1.A e1.r.rests.length e1.ca)∧w'.cell? ⟨g1,o1+k*4+3,none⟩=some (.slice e1.C e1.r.vis.length e1.cc)∧w'.cell? ⟨g2,o2+k*4,none⟩=some (.int .i64 e2.r.kind)∧w'.cell? ⟨g2,o2+k*4+1,none⟩=some (.int .i64 e2.r.start)∧w'.cell? ⟨g2,o2+k*4+2,none⟩=some (.slice e2.A e2.r.rests.length e2.ca)∧w'.cell? ⟨g2,o2+k*4+3,none⟩=some (.slice e2.C e2.r.vis.length e2.cc) from by
      obtain ⟨d0,d1⟩:=cells2 (row_keep HOA.out h)
      obtain ⟨f0,f1⟩:=cells2 (row_keep HOB.out h)
      exact ⟨h,d0,f0,(h.cell (p:=⟨g1,o1+k*4,none⟩) hg1).trans (hx3 0 _ rfl),(h.cell (p:=⟨g1,o1+k*4+1,none⟩) hg1).trans (hx3 1 _ rfl),(h.cell (p:=⟨g1,o1+k*4+2,none⟩) hg1).trans (hx3 2 _ rfl),(h.cell (p:=⟨g1,o1+k*4+3,none⟩) hg1).trans (hx3 3 _ rfl),(h.cell (p:=⟨g2,o2+k*4,none⟩) hg2).trans (hx4 0 _ rfl),(h.cell (p:=⟨g2,o2+k*4+1,none⟩) hg2).trans (hx4 1 _ rfl),(h.cell (p:=⟨g2,o2+k*4+2,none⟩) hg2).trans (hx4 2 _ rfl),(h.cell (p:=⟨g2,o2+k*4+3,none⟩) hg2).trans (hx4 3 _ rfl)⟩)
     have HKP:=Lib.hid (fun (wo wn:World) (h:Below wB.heap.size wB wo∧wo.cell? ⟨w.heap.size,0,none⟩=some (.slice (some ⟨g1,o1,none⟩) xs.length cA)∧wo.cell? ⟨w.heap.size+1,0,none⟩=some (.slice (some ⟨g2,o2,none⟩) ys.length cA2)∧wo.cell? ⟨g1,o1+k*4,none⟩=some (.int .i64 e1.r.kind)∧wo.cell? ⟨g1,o1+k*4+1,none⟩=some (.int .i64 e1.r.start)∧wo.cell? ⟨g1,o1+k*4+2,none⟩=some (.slice e1.A e1.r.rests.length e1.ca)∧wo.cell? ⟨g1,o1+k*4+3,none⟩=some (.slice e1.C e1.r.vis.length e1.cc)∧wo.cell? ⟨g2,o2+k*4,none⟩=some (.int .i64 e2.r.kind)∧wo.cell? ⟨g2,o2+k*4+1,none⟩=some (.int .i64 e2.r.start)∧wo.cell? ⟨g2,o2+k*4+2,none⟩=some (.slice e2.A e2.r.rests.length e2.ca)∧wo.cell? ⟨g2,o2+k*4+3,none⟩=some (.slice e2.C e2.r.vis.length e2.cc)) (hbz:Below wo.heap.size wo wn)=>HALL.out wn (h.1.trans (hbz.mono h.1.size)))
     clear hA1 hA2 hx3 hx4
     have hS0:=HALL.out wr.drew hbel.drew
     by_cases hm:e1.r=e2.r
     ·have HN:=Lib.hid (HEU.out.succ (by rw [HG1.out,HG2.out,hm]))
      have HSR:=Lib.hid (fun (w':World) (h:Below wB.heap.size wB w'∧w'.cell? ⟨w.heap.size,0,none⟩=some (.slice (some ⟨g1,o1,none⟩) xs.length cA)∧w'.cell? ⟨w.heap.size+1,0,none⟩=some (.slice (some ⟨g2,o2,none⟩) ys.length cA2)∧w'.cell? ⟨g1,o1+k*4,none⟩=some (.int .i64 e1.r.kind)∧w'.cell? ⟨g1,o1+k*4+1,none⟩=some (.int .i64 e1.r.start)∧w'.cell? ⟨g1,o1+k*4+2,none⟩=some (.slice e1.A e1.r.rests.length e1.ca)∧w'.cell? ⟨g1,o1+k*4+3,none⟩=some (.slice e1.C e1.r.vis.length e1.cc)∧w'.cell? ⟨g2,o2+k*4,none⟩=some (.int .i64 e2.r.kind)∧w'.cell? ⟨g2,o2+k*4+1,none⟩=some (.int .i64 e2.r.start)∧w'.cell? ⟨g2,o2+k*4+2,none⟩=some (.slice e2.A e2.r.rests.length e2.ca)∧w'.cell? ⟨g2,o2+k*4+3,none⟩=some (.slice e2.C e2.r.vis.length e2.cc))=>rsameRoute_any e1 e2 w' (HRX.out.below h.1) (HRY.out.below h.1))
      rw [eqv_true hm] at HSR
      clear hm
      go_wp2_with fail
      go_region_held3 (fun w'=>Below wB.heap.size wB w'∧w'.cell? ⟨w.heap.size,0,none⟩=some (.slice (some ⟨g1,o1,none⟩) xs.length cA)∧w'.cell? ⟨w.heap.size+1,0,none⟩=some (.slice (some ⟨g2,o2,none⟩) ys.length cA2)∧w'.cell? ⟨g1,o1+k*4,none⟩=some (.int .i64 e1.r.kind)∧w'.cell? ⟨g1,o1+k*4+1,none⟩=some (.int .i64 e1.r.start)∧w'.cell? ⟨g1,o1+k*4+2,none⟩=some (.slice e1.A e1.r.rests.length e1.ca)∧w'.cell? ⟨g1,o1+k*4+3,none⟩=some (.slice e1.C e1.r.vis.length e1.cc)∧w'.cell? ⟨g2,o2+k*4,none⟩=some (.int .i64 e2.r.kind)∧w'.cell? ⟨g2,o2+k*4+1,none⟩=some (.int .i64 e2.r.start)∧w'.cell? ⟨g2,o2+k*4+2,none⟩=some (.slice e2.A e2.r.rests.length e2.ca)∧w'.cell? ⟨g2,o2+k*4+3,none⟩=some (.slice e2.C e2.r.vis.length e2.cc))
       (first | (exact HKP.out _ _ (by assumption) hbz) | (with_reducible exact hS0))
       (first | (go_at_call 50;((with_reducible refine (HSR.out _ (by assumption)).mono ?_);rintro e wz ⟨rfl,hbz⟩)))
      all_goals
       have hbf:=(show Below wB.heap.size wB wz∧wz.cell? ⟨w.heap.size,0,none⟩=some (.slice (some ⟨g1,o1,none⟩) xs.length cA)∧wz.cell? ⟨w.heap.size+1,0,none⟩=some (.slice (some ⟨g2,o2,none⟩) ys.length cA2)∧wz.cell? ⟨g1,o1+k*4,none⟩=some (.int .i64 e1.r.kind)∧wz.cell? ⟨g1,o1+k*4+1,none⟩=some (.int .i64 e1.r.start)∧wz.cell? ⟨g1,o1+k*4+2,none⟩=some (.slice e1.A e1.r.rests.length e1.ca)∧wz.cell? ⟨g1,o1+k*4+3,none⟩=some (.slice e1.C e1.r.vis.length e1.cc)∧wz.cell? ⟨g2,o2+k*4,none⟩=some (.int .i64 e2.r.kind)∧wz.cell? ⟨g2,o2+k*4+1,none⟩=some (.int .i64 e2.r.start)∧wz.cell? ⟨g2,o2+k*4+2,none⟩=some (.slice e2.A e2.r.rests.length e2.ca)∧wz.cell? ⟨g2,o2+k*4+3,none⟩=some (.slice e2.C e2.r.vis.length e2.cc) from by assumption).1
       go_wp2_with fail
       go_roundw
       case rel=>exact ⟨k+1,by omega,by go_num,HN.out,hbf⟩
       case measure=>simp [intOf];omega
     ·have HR:=Lib.hid (HNR.out (neq_get (xs:=xs.map (·.r)) (ys:=ys.map (·.r)) (k:=k) (by rw [HG1.out,HG2.out];exact fun e=>hm (by injection e))))
      have HSR:=Lib.hid (fun (w':World) (h:Below wB.heap.size wB w'∧w'.cell? ⟨w.heap.size,0,none⟩=some (.slice (some ⟨g1,o1,none⟩) xs.length cA)∧w'.cell? ⟨w.heap.size+1,0,none⟩=some (.slice (some ⟨g2,o2,none⟩) ys.length cA2)∧w'.cell? ⟨g1,o1+k*4,none⟩=some (.int .i64 e1.r.kind)∧w'.cell? ⟨g1,o1+k*4+1,none⟩=some (.int .i64 e1.r.start)∧w'.cell? ⟨g1,o1+k*4+2,none⟩=some (.slice e1.A e1.r.rests.length e1.ca)∧w'.cell? ⟨g1,o1+k*4+3,none⟩=some (.slice e1.C e1.r.vis.length e1.cc)∧w'.cell? ⟨g2,o2+k*4,none⟩=some (.int .i64 e2.r.kind)∧w'.cell? ⟨g2,o2+k*4+1,none⟩=some (.int .i64 e2.r.start)∧w'.cell? ⟨g2,o2+k*4+2,none⟩=some (.slice e2.A e2.r.rests.length e2.ca)∧w'.cell? ⟨g2,o2+k*4+3,none⟩=some (.slice e2.C e2.r.vis.length e2.cc))=>rsameRoute_any e1 e2 w' (HRX.out.below h.1) (HRY.out.below h.1))
      rw [eqv_false hm] at HSR
      clear hm
      go_wp2_with fail
      go_region_held3 (fun w'=>Below wB.heap.size wB w'∧w'.cell? ⟨w.heap.size,0,none⟩=some (.slice (some ⟨g1,o1,none⟩) xs.length cA)∧w'.cell? ⟨w.heap.size+1,0,none⟩=some (.slice (some ⟨g2,o2,none⟩) ys.length cA2)∧w'.cell? ⟨g1,o1+k*4,none⟩=some (.int .i64 e1.r.kind)∧w'.cell? ⟨g1,o1+k*4+1,none⟩=some (.int .i64 e1.r.start)∧w'.cell? ⟨g1,o1+k*4+2,none⟩=some (.slice e1.A e1.r.rests.length e1.ca)∧w'.cell? ⟨g1,o1+k*4+3,none⟩=some (.slice e1.C e1.r.vis.length e1.cc)∧w'.cell? ⟨g2,o2+k*4,none⟩=some (.int .i64 e2.r.kind)∧w'.cell? ⟨g2,o2+k*4+1,none⟩=some (.int .i64 e2.r.start)∧w'.cell? ⟨g2,o2+k*4+2,none⟩=some (.slice e2.A e2.r.rests.length e2.ca)∧w'.cell? ⟨g2,o2+k*4+3,none⟩=some (.slice e2.C e2.r.vis.length e2.cc))
       (first | (exact HKP.out _ _ (by assumption) hbz) | (with_reducible exact hS0))
       (first | (go_at_call 50;((with_reducible refine (HSR.out _ (by assumption)).mono ?_);rintro e wz ⟨rfl,hbz⟩)))
      all_goals
       have hbf:=(show Below wB.heap.size wB wz∧wz.cell? ⟨w.heap.size,0,none⟩=some (.slice (some ⟨g1,o1,none⟩) xs.length cA)∧wz.cell? ⟨w.heap.size+1,0,none⟩=some (.slice (some ⟨g2,o2,none⟩) ys.length cA2)∧wz.cell? ⟨g1,o1+k*4,none⟩=some (.int .i64 e1.r.kind)∧wz.cell? ⟨g1,o1+k*4+1,none⟩=some (.int .i64 e1.r.start)∧wz.cell? ⟨g1,o1+k*4+2,none⟩=some (.slice e1.A e1.r.rests.length e1.ca)∧wz.cell? ⟨g1,o1+k*4+3,none⟩=some (.slice e1.C e1.r.vis.length e1.cc)∧wz.cell? ⟨g2,o2+k*4,none⟩=some (.int .i64 e2.r.kind)∧wz.cell? ⟨g2,o2+k*4+1,none⟩=some (.int .i64 e2.r.start)∧wz.cell? ⟨g2,o2+k*4+2,none⟩=some (.slice e2.A e2.r.rests.length e2.ca)∧wz.cell? ⟨g2,o2+k*4+3,none⟩=some (.slice e2.C e2.r.vis.length e2.cc) from by assumption).1
       go_wp2_with fail
       go_ret
       rw [HR.out]
       exact ⟨rfl,below_lift HB.out hbf⟩
    ·have hkx:¬ (k:Int)<(xs.length:Int):=by omega
     have HF:=Lib.hid (HEU.out.all (by rw [List.length_map];omega) (by rw [List.length_map,List.length_map];exact HL.out))
     have HBS:=Lib.hid hbel
     go_wp2_with fail
     clear a0 a1 b0 b1 hbel HBL HEU hk hkx hlt
     go_loopw [4,6] (fun _ i wr=>∃ k:Nat,k≤us.length∧i=.int .i64 k∧EqUp us vs k∧Below wB.heap.size wB wr) (fun _ i _=>us.length - (intOf i).toNat)
     case atStart=>exact ⟨0,by omega,rfl,EqUp.zero _ _,HBS.out⟩
     case round =>
      obtain ⟨k,hk,rfl,heq,hbel⟩:=hrel
      have HEU:=Lib.hid heq
      have HBL:=Lib.hid hbel
      clear heq HBS
      obtain ⟨a0,a1⟩:=cells2 (row_keep HO1.out hbel)
      obtain ⟨b0,b1⟩:=cells2 (row_keep HO2.out hbel)
      by_cases hlt:k<us.length
      ·have hlt2:k<vs.length:=by have:=HLU.out;omega
       obtain ⟨g1,o1,hA1,hg1,hx1⟩:=HU1.out (by rw [ints_length];omega)
       obtain ⟨g2,o2,hA2,hg2,hx2⟩:=HU2.out (by rw [ints_length];omega)
       rw [hA1] at a1
       rw [hA2] at b1
       clear hA1 hA2
       have x0:wr.cell? ⟨g1,o1+k,none⟩=some (.int .i64 us[k]):=(hbel.cell (p:=⟨g1,o1+k,none⟩) hg1).trans (hx1 k _ (ints_at2 us k hlt))
       have y0:wr.cell? ⟨g2,o2+k,none⟩=some (.int .i64 vs[k]):=(hbel.cell (p:=⟨g2,o2+k,none⟩) hg2).trans (hx2 k _ (ints_at2 vs k hlt2))
       have HG:=Lib.hid (List.getElem?_eq_getElem hlt)
       have HG2:=Lib.hid (List.getElem?_eq_getElem hlt2)
       have hkl:(k:Int)<(us.length:Int):=by omega
       have hkl2:(k:Int)<(vs.length:Int):=by omega
       clear hx1 hx2
       by_cases hxy:us[k]=vs[k]
       ·have HN:=Lib.hid (HEU.out.succ (by rw [HG.out,HG2.out,hxy]))
        rw [hxy] at x0
        clear hxy HG HG2
        generalize vs[k]=v0 at *
        have e1v:(v0 != v0)=false:=by simp
        go_wp2_with fail
        go_quiet (fail)
        have hb0:=below_drewN hbel nq
        go_wp2_with fail
        all_goals first
         |(go_roundw
           case rel=>exact ⟨k+1,by omega,by go_num,HN.out,hb0⟩
           case measure=>simp [intOf];omega)
         |exact ⟨⟨k+1,by omega,by go_num,HN.out,hb0⟩,by simp [intOf];omega⟩
       ·have hne:=HNU.out (neq_get (xs:=us) (ys:=vs) (k:=k) (by rw [HG.out,HG2.out];exact fun e=>hxy (by injection e)))
        have HR:=Lib.hid hne
        clear HG HG2 hne
        have n0:us[k]≠vs[k]:=fun h0=>hxy (h0)
        have e0x:(us[k] == vs[k])=false:=by rw [beq_eq_false_iff_ne];exact n0
        have e0y:(us[k] != vs[k])=true:=by rw [bne_iff_ne];exact n0
        clear hxy  n0
        generalize us[k]=u0 at *
        generalize vs[k]=v0 at *
        have e0z:(!(u0 == v0))=true:=by rw [e0x];rfl
        go_wp2_with fail
        go_quiet (fail)
        have hb0:=below_drewN hbel nq
        go_wp2_with fail
        go_ret
        rw [HR.out]
        exact ⟨rfl,below_lift HB.out hb0⟩
      ·have hkx:¬ (k:Int)<(us.length:Int):=by omega
       have HF_us:=Lib.hid (HEU.out.all (by omega) HLU.out)
       have HR:=Lib.hid (HEQ.out HF.out HF_us.out)
       go_wp2_with fail
       go_ret
       rw [HR.out]
       exact ⟨rfl,below_lift HB.out hbel⟩
  ·have hx:=HNU.out (fun e=>hu (by rw [e]))
   subst hx
   have e1:((xs.length:Int) != (ys.length:Int))=false:=by rw [hl];simp
   have e2:((us.length:Int) != (vs.length:Int))=true:=by rw [bne_iff_ne];omega
   clear hu hl
   go_wp2_with fail
   go_ret
   exact ⟨rfl,HB.out⟩
 ·have hx:=HNR.out (fun e=>hl (by have:=congrArg List.length e;rwa [List.length_map,List.length_map] at this))
  subst hx
  have e1:((xs.length:Int) != (ys.length:Int))=true:=by rw [bne_iff_ne];omega
  clear hl
  go_wp2_with fail
  go_ret
  exact ⟨rfl,HB.out⟩
set_option maxHeartbeats 8000000 in
theorem rpSame_any (m1 m2:ProofM) (w:World) (h1:ProofAt w m1) (h2:ProofAt w m2) :
  Calls Tryz.prog 15 #[proofA m1,proofA m2] w fun e w'=>e=.returned (.bool (eqv m1.v m2.v))∧Below w.heap.size w w':=by
 obtain ⟨bw,o1,o2⟩:=two_new w (proofB m1) (proofB m2)
 have HPS:=Lib.hid (fun w' (h:Below w.heap.size w w')=>rSame_any m1.P m2.P w' (h1.plan.below h) (h2.plan.below h))
 have HC1:=Lib.hid (fun w' (h:Below w.heap.size w w')=>(h1.below h).nodes)
 have HC2:=Lib.hid (fun w' (h:Below w.heap.size w w')=>(h2.below h).nodes)
 have HE1:=Lib.hid (fun w' (h:Below w.heap.size w w')=>(h1.below h).each)
 have HE2:=Lib.hid (fun w' (h:Below w.heap.size w w')=>(h2.below h).each)
 have l1:=h1.nl
 have l2:=h2.nl
 unfold maxLen at l1 l2
 have HNN:=Lib.hid (fun (h:m1.none≠m2.none)=>eqv_false (a:=m1.v) (b:=m2.v) (fun e=>h (by have:=congrArg ProofV.none e;exact this)))
 have HNP:=Lib.hid (fun (h:m1.P.v≠m2.P.v)=>eqv_false (a:=m1.v) (b:=m2.v) (fun e=>h (by have:=congrArg ProofV.plan e;exact this)))
 have HNR:=Lib.hid (fun (h:m1.ns.map (·.n)≠m2.ns.map (·.n))=>eqv_false (a:=m1.v) (b:=m2.v) (fun e=>h (by have:=congrArg ProofV.nodes e;exact this)))
 have HEQ:=Lib.hid (fun (ha:m1.none=m2.none) (hb:m1.P.v=m2.P.v) (hc:m1.ns.map (·.n)=m2.ns.map (·.n))=>eqv_true (show m1.v=m2.v by unfold ProofM.v;rw [ha,hb,hc]))
 have HB0:=Lib.hid bw
 have HP1:=Lib.hid o1
 have HP2:=Lib.hid o2
 clear h1 h2 bw o1 o2
 generalize eqv m1.v m2.v=res at *
 obtain ⟨n1,P1,A,cA,xs⟩:=m1
 obtain ⟨n2,P2,A2,cA2,ys⟩:=m2
 simp only at HPS HC1 HC2 HE1 HE2 l1 l2 HNN HNP HNR HEQ
 go_enter Tryz.func15,Tryz.ntmps15
 go_upto_region 1 with fail
 generalize ((w.alloc _).alloc _)=wA at *
 obtain ⟨a0,a1,a2,a3⟩:=cells4 HP1.out
 obtain ⟨b0,b1,b2,b3⟩:=cells4 HP2.out
 by_cases hn:n1=n2
 ·subst hn
  have HCP:=Lib.hid (HPS.out wA HB0.out)
  by_cases hp:P1.v=P2.v
  ·rw [eqv_true hp] at HCP
   have HPV:=Lib.hid hp
   clear hp
   by_cases hl:xs.length=ys.length
   ·have HL:=Lib.hid hl
    have e1:((xs.length:Int) != (ys.length:Int))=false:=by rw [hl];simp
    clear hl
    go_wp2_with fail
    refine HCP.out.mono ?_
    rintro e wB ⟨rfl,hbB⟩
    have HB:=Lib.hid (below_lift HB0.out hbB)
    have HO1:=Lib.hid (row_keep HP1.out hbB)
    have HO2:=Lib.hid (row_keep HP2.out hbB)
    have HD1:=Lib.hid (HC1.out wB HB.out)
    have HD2:=Lib.hid (HC2.out wB HB.out)
    have HF1:=Lib.hid (HE1.out wB HB.out)
    have HF2:=Lib.hid (HE2.out wB HB.out)
    obtain ⟨a0,a1,a2,a3⟩:=cells4 HO1.out
    obtain ⟨b0,b1,b2,b3⟩:=cells4 HO2.out
    have HBS:=Lib.hid (Below.refl wB.heap.size wB)
    go_wp2_with fail
    clear a0 a1 a2 a3 b0 b1 b2 b3
    go_loopw [4,5] (fun _ i wr=>∃ k:Nat,k≤xs.length∧i=.int .i64 k∧EqUp (xs.map (·.n)) (ys.map (·.n)) k∧Below wB.heap.size wB wr) (fun _ i _=>xs.length - (intOf i).toNat)
    case atStart=>exact ⟨0,by omega,rfl,EqUp.zero _ _,HBS.out⟩
    case round =>
     obtain ⟨k,hk,rfl,heq,hbel⟩:=hrel
     have HEU:=Lib.hid heq
     have HBL:=Lib.hid hbel
     clear heq HBS
     obtain ⟨a0,a1,a2,a3⟩:=cells4 (row_keep HO1.out hbel)
     obtain ⟨b0,b1,b2,b3⟩:=cells4 (row_keep HO2.out hbel)
     by_cases hlt:k<xs.length
     ·have hlt2:k<ys.length:=by have:=HL.out;omega
      obtain ⟨g1,o1,hA1,hg1,hx1⟩:=elems NodeM.cells_len (by decide) HD1.out (by omega)
      obtain ⟨g2,o2,hA2,hg2,hx2⟩:=elems NodeM.cells_len (by decide) HD2.out (by omega)
      rw [hA1] at a3
      rw [hA2] at b3
      have g3:=map_get (·.n) hlt
      have g4:=map_get (·.n) hlt2
      have rx:=HF1.out _ (List.getElem_mem hlt)
      have ry:=HF2.out _ (List.getElem_mem hlt2)
      have hx3:=hx1 k hlt
      have hx4:=hx2 k hlt2
      have HG1:=Lib.hid g3
      have HG2:=Lib.hid g4
      have HRX:=Lib.hid rx
      have HRY:=Lib.hid ry
      clear g3 g4 rx ry hx1 hx2
      generalize xs[k]=e1 at *
      generalize ys[k]=e2 at *
      have hkl:(k:Int)<(xs.length:Int):=by omega
      have hkl2:(k:Int)<(ys.length:Int):=by omega
      have HOA:=Lib.hid (hA1 ▸ HO1.out)
      have HOB:=Lib.hid (hA2 ▸ HO2.out)
      have HALL:=Lib.hid (fun w' (h:Below wB.heap.size wB w')=>show Below wB.heap.size wB w'∧w'.cell? ⟨w.heap.size,3,none⟩=some (.slice (some ⟨g1,o1,none⟩) xs.length cA)∧w'.cell? ⟨w.heap.size+1,3,none⟩=some (.slice (some ⟨g2,o2,none⟩) ys.length cA2)∧w'.cell? ⟨g1,o1+k*10,none⟩=some (.bool e1.n.leaf)∧w'.cell? ⟨g1,o1+k*10+1,none⟩=some (.int .i64 e1.n.kind)∧w'.cell? ⟨g1,o1+k*10+2,none⟩=some (.slice e1.A e1.n.cuts.length e1.ca)∧w'.cell? ⟨g1,o1+k*10+3,none⟩=some (.slice e1.C e1.n.dual.length e1.cc)∧w'.cell? ⟨g1,o1+k*10+4,none⟩=some (.int .i64 e1.n.ck)∧w'.cell? ⟨g1,o1+k*10+5,none⟩=some (.int .i64 e1.n.ca)∧w'.cell? ⟨g1,o1+k*10+6,none⟩=some (.int .i64 e1.n.cb)∧w'.cell? ⟨g1,o1+k*10+7,none⟩=some (.int .i64 e1.n.cn)∧w'.cell? ⟨g1,o1+k*10+8,none⟩=some (.int .i64 e1.n.yes)∧w'.cell? ⟨g1,o1+k*10+9,none⟩=some (.int .i64 e1.n.no)∧w'.cell? ⟨g2,o2+k*10,none⟩=some (.bool e2.n.leaf)∧w'.cell? ⟨g2,o2+k*10+1,none⟩=some (.int .i64 e2.n.kind)∧w'.cell? ⟨g2,o2+k*10+2,none⟩=some (.slice e2.A e2.n.cuts.length e2.ca)∧w'.cell? ⟨g2,o2+k*10+3,none⟩=some (.slice e2.C e2.n.dual.length e2.cc)∧w'.cell? ⟨g2,o2+k*10+4,none⟩=some (.int .i64 e2.n.ck)∧w'.cell? ⟨g2,o2+k*10+5,none⟩=some (.int .i64 e2.n.ca)∧w'.cell? ⟨g2,o2+k*10+6,none⟩=some (.int .i64 e2.n.cb)∧w'.cell? ⟨g2,o2+k*10+7,none⟩=some (.int .i64 e2.n.cn)∧w'.cell? ⟨g2,o2+k*10+8,none⟩=some (.int .i64 e2.n.yes)∧w'.cell? ⟨g2,o2+k*10+9,none⟩=some (.int .i64 e2.n.no) from by
       obtain ⟨d0,d1,d2,d3⟩:=cells4 (row_keep HOA.out h)
       obtain ⟨f0,f1,f2,f3⟩:=cells4 (row_keep HOB.out h)
       exact ⟨h,d3,f3,(h.cell (p:=⟨g1,o1+k*10,none⟩) hg1).trans (hx3 0 _ rfl),(h.cell (p:=⟨g1,o1+k*10+1,none⟩) hg1).trans (hx3 1 _ rfl),(h.cell (p:=⟨g1,o1+k*10+2,none⟩) hg1).trans (hx3 2 _ rfl),(h.cell (p:=⟨g1,o1+k*10+3,none⟩) hg1).trans (hx3 3 _ rfl),(h.cell (p:=⟨g1,o1+k*10+4,none⟩) hg1).trans (hx3 4 _ rfl),(h.cell (p:=⟨g1,o1+k*10+5,none⟩) hg1).trans (hx3 5 _ rfl),(h.cell (p:=⟨g1,o1+k*10+6,none⟩) hg1).trans (hx3 6 _ rfl),(h.cell (p:=⟨g1,o1+k*10+7,none⟩) hg1).trans (hx3 7 _ rfl),(h.cell (p:=⟨g1,o1+k*10+8,none⟩) hg1).trans (hx3 8 _ rfl),(h.cell (p:=⟨g1,o1+k*10+9,none⟩) hg1).trans (hx3 9 _ rfl),(h.cell (p:=⟨g2,o2+k*10,none⟩) hg2).trans (hx4 0 _ rfl),(h.cell (p:=⟨g2,o2+k*10+1,none⟩) hg2).trans (hx4 1 _ rfl),(h.cell (p:=⟨g2,o2+k*10+2,none⟩) hg2).trans (hx4 2 _ rfl),(h.cell (p:=⟨g2,o2+k*10+3,none⟩) hg2).trans (hx4 3 _ rfl),(h.cell (p:=⟨g2,o2+k*10+4,none⟩) hg2).trans (hx4 4 _ rfl),(h.cell (p:=⟨g2,o2+k*10+5,none⟩) hg2).trans (hx4 5 _ rfl),(h.cell (p:=⟨g2,o2+k*10+6,none⟩) hg2).trans (hx4 6 _ rfl),(h.cell (p:=⟨g2,o2+k*10+7,none⟩) hg2).trans (hx4 7 _ rfl),(h.cell (p:=⟨g2,o2+k*10+8,none⟩) hg2).trans (hx4 8 _ rfl),(h.cell (p:=⟨g2,o2+k*10+9,none⟩) hg2).trans (hx4 9 _ rfl)⟩)
      have HKP:=Lib.hid (fun (wo wn:World) (h:Below wB.heap.size wB wo∧wo.cell? ⟨w.heap.size,3,none⟩=some (.slice (some ⟨g1,o1,none⟩) xs.length cA)∧wo.cell? ⟨w.heap.size+1,3,none⟩=some (.slice (some ⟨g2,o2,none⟩) ys.length cA2)∧wo.cell? ⟨g1,o1+k*10,none⟩=some (.bool e1.n.leaf)∧wo.cell? ⟨g1,o1+k*10+1,none⟩=some (.int .i64 e1.n.kind)∧wo.cell? ⟨g1,o1+k*10+2,none⟩=some (.slice e1.A e1.n.cuts.length e1.ca)∧wo.cell? ⟨g1,o1+k*10+3,none⟩=some (.slice e1.C e1.n.dual.length e1.cc)∧wo.cell? ⟨g1,o1+k*10+4,none⟩=some (.int .i64 e1.n.ck)∧wo.cell? ⟨g1,o1+k*10+5,none⟩=some (.int .i64 e1.n.ca)∧wo.cell? ⟨g1,o1+k*10+6,none⟩=some (.int .i64 e1.n.cb)∧wo.cell? ⟨g1,o1+k*10+7,none⟩=some (.int .i64 e1.n.cn)∧wo.cell? ⟨g1,o1+k*10+8,none⟩=some (.int .i64 e1.n.yes)∧wo.cell? ⟨g1,o1+k*10+9,none⟩=some (.int .i64 e1.n.no)∧wo.cell? ⟨g2,o2+k*10,none⟩=some (.bool e2.n.leaf)∧wo.cell? ⟨g2,o2+k*10+1,none⟩=some (.int .i64 e2.n.kind)∧wo.cell? ⟨g2,o2+k*10+2,none⟩=some (.slice e2.A e2.n.cuts.length e2.ca)∧wo.cell? ⟨g2,o2+k*10+3,none⟩=some (.slice e2.C e2.n.dual.length e2.cc)∧wo.cell? ⟨g2,o2+k*10+4,none⟩=some (.int .i64 e2.n.ck)∧wo.cell? ⟨g2,o2+k*10+5,none⟩=some (.int .i64 e2.n.ca)∧wo.cell? ⟨g2,o2+k*10+6,none⟩=some (.int .i64 e2.n.cb)∧wo.cell? ⟨g2,o2+k*10+7,none⟩=some (.int .i64 e2.n.cn)∧wo.cell? ⟨g2,o2+k*10+8,none⟩=some (.int .i64 e2.n.yes)∧wo.cell? ⟨g2,o2+k*10+9,none⟩=some (.int .i64 e2.n.no)) (hbz:Below wo.heap.size wo wn)=>HALL.out wn (h.1.trans (hbz.mono h.1.size)))
      clear hA1 hA2 hx3 hx4
      have hS0:=HALL.out wr.drew hbel.drew
      by_cases hm:e1.n=e2.n
      ·have HN:=Lib.hid (HEU.out.succ (by rw [HG1.out,HG2.out,hm]))
       have HSR:=Lib.hid (fun (w':World) (h:Below wB.heap.size wB w'∧w'.cell? ⟨w.heap.size,3,none⟩=some (.slice (some ⟨g1,o1,none⟩) xs.length cA)∧w'.cell? ⟨w.heap.size+1,3,none⟩=some (.slice (some ⟨g2,o2,none⟩) ys.length cA2)∧w'.cell? ⟨g1,o1+k*10,none⟩=some (.bool e1.n.leaf)∧w'.cell? ⟨g1,o1+k*10+1,none⟩=some (.int .i64 e1.n.kind)∧w'.cell? ⟨g1,o1+k*10+2,none⟩=some (.slice e1.A e1.n.cuts.length e1.ca)∧w'.cell? ⟨g1,o1+k*10+3,none⟩=some (.slice e1.C e1.n.dual.length e1.cc)∧w'.cell? ⟨g1,o1+k*10+4,none⟩=some (.int .i64 e1.n.ck)∧w'.cell? ⟨g1,o1+k*10+5,none⟩=some (.int .i64 e1.n.ca)∧w'.cell? ⟨g1,o1+k*10+6,none⟩=some (.int .i64 e1.n.cb)∧w'.cell? ⟨g1,o1+k*10+7,none⟩=some (.int .i64 e1.n.cn)∧w'.cell? ⟨g1,o1+k*10+8,none⟩=some (.int .i64 e1.n.yes)∧w'.cell? ⟨g1,o1+k*10+9,none⟩=some (.int .i64 e1.n.no)∧w'.cell? ⟨g2,o2+k*10,none⟩=some (.bool e2.n.leaf)∧w'.cell? ⟨g2,o2+k*10+1,none⟩=some (.int .i64 e2.n.kind)∧w'.cell? ⟨g2,o2+k*10+2,none⟩=some (.slice e2.A e2.n.cuts.length e2.ca)∧w'.cell? ⟨g2,o2+k*10+3,none⟩=some (.slice e2.C e2.n.dual.length e2.cc)∧w'.cell? ⟨g2,o2+k*10+4,none⟩=some (.int .i64 e2.n.ck)∧w'.cell? ⟨g2,o2+k*10+5,none⟩=some (.int .i64 e2.n.ca)∧w'.cell? ⟨g2,o2+k*10+6,none⟩=some (.int .i64 e2.n.cb)∧w'.cell? ⟨g2,o2+k*10+7,none⟩=some (.int .i64 e2.n.cn)∧w'.cell? ⟨g2,o2+k*10+8,none⟩=some (.int .i64 e2.n.yes)∧w'.cell? ⟨g2,o2+k*10+9,none⟩=some (.int .i64 e2.n.no))=>rnodes_any e1 e2 w' (HRX.out.below h.1) (HRY.out.below h.1))
       rw [eqv_true hm] at HSR
       clear hm
       go_wp2_with fail
       go_region_held3 (fun w'=>Below wB.heap.size wB w'∧w'.cell? ⟨w.heap.size,3,none⟩=some (.slice (some ⟨g1,o1,none⟩) xs.length cA)∧w'.cell? ⟨w.heap.size+1,3,none⟩=some (.slice (some ⟨g2,o2,none⟩) ys.length cA2)∧w'.cell? ⟨g1,o1+k*10,none⟩=some (.bool e1.n.leaf)∧w'.cell? ⟨g1,o1+k*10+1,none⟩=some (.int .i64 e1.n.kind)∧w'.cell? ⟨g1,o1+k*10+2,none⟩=some (.slice e1.A e1.n.cuts.length e1.ca)∧w'.cell? ⟨g1,o1+k*10+3,none⟩=some (.slice e1.C e1.n.dual.length e1.cc)∧w'.cell? ⟨g1,o1+k*10+4,none⟩=some (.int .i64 e1.n.ck)∧w'.cell? ⟨g1,o1+k*10+5,none⟩=some (.int .i64 e1.n.ca)∧w'.cell? ⟨g1,o1+k*10+6,none⟩=some (.int .i64 e1.n.cb)∧w'.cell? ⟨g1,o1+k*10+7,none⟩=some (.int .i64 e1.n.cn)∧w'.cell? ⟨g1,o1+k*10+8,none⟩=some (.int .i64 e1.n.yes)∧w'.cell? ⟨g1,o1+k*10+9,none⟩=some (.int .i64 e1.n.no)∧w'.cell? ⟨g2,o2+k*10,none⟩=some (.bool e2.n.leaf)∧w'.cell? ⟨g2,o2+k*10+1,none⟩=some (.int .i64 e2.n.kind)∧w'.cell? ⟨g2,o2+k*10+2,none⟩=some (.slice e2.A e2.n.cuts.length e2.ca)∧w'.cell? ⟨g2,o2+k*10+3,none⟩=some (.slice e2.C e2.n.dual.length e2.cc)∧w'.cell? ⟨g2,o2+k*10+4,none⟩=some (.int .i64 e2.n.ck)∧w'.cell? ⟨g2,o2+k*10+5,none⟩=some (.int .i64 e2.n.ca)∧w'.cell? ⟨g2,o2+k*10+6,none⟩=some (.int .i64 e2.n.cb)∧w'.cell? ⟨g2,o2+k*10+7,none⟩=some (.int .i64 e2.n.cn)∧w'.cell? ⟨g2,o2+k*10+8,none⟩=some (.int .i64 e2.n.yes)∧w'.cell? ⟨g2,o2+k*10+9,none⟩=some (.int .i64 e2.n.no))
        (first | (exact HKP.out _ _ (by assumption) hbz) | (with_reducible exact hS0))
        (first | (go_at_call 41;((with_reducible refine (HSR.out _ (by assumption)).mono ?_);rintro e wz ⟨rfl,hbz⟩)))
       all_goals
        have hbf:=(show Below wB.heap.size wB wz∧wz.cell? ⟨w.heap.size,3,none⟩=some (.slice (some ⟨g1,o1,none⟩) xs.length cA)∧wz.cell? ⟨w.heap.size+1,3,none⟩=some (.slice (some ⟨g2,o2,none⟩) ys.length cA2)∧wz.cell? ⟨g1,o1+k*10,none⟩=some (.bool e1.n.leaf)∧wz.cell? ⟨g1,o1+k*10+1,none⟩=some (.int .i64 e1.n.kind)∧wz.cell? ⟨g1,o1+k*10+2,none⟩=some (.slice e1.A e1.n.cuts.length e1.ca)∧wz.cell? ⟨g1,o1+k*10+3,none⟩=some (.slice e1.C e1.n.dual.length e1.cc)∧wz.cell? ⟨g1,o1+k*10+4,none⟩=some (.int .i64 e1.n.ck)∧wz.cell? ⟨g1,o1+k*10+5,none⟩=some (.int .i64 e1.n.ca)∧wz.cell? ⟨g1,o1+k*10+6,none⟩=some (.int .i64 e1.n.cb)∧wz.cell? ⟨g1,o1+k*10+7,none⟩=some (.int .i64 e1.n.cn)∧wz.cell? ⟨g1,o1+k*10+8,none⟩=some (.int .i64 e1.n.yes)∧wz.cell? ⟨g1,o1+k*10+9,none⟩=some (.int .i64 e1.n.no)∧wz.cell? ⟨g2,o2+k*10,none⟩=some (.bool e2.n.leaf)∧wz.cell? ⟨g2,o2+k*10+1,none⟩=some (.int .i64 e2.n.kind)∧wz.cell? ⟨g2,o2+k*10+2,none⟩=some (.slice e2.A e2.n.cuts.length e2.ca)∧wz.cell? ⟨g2,o2+k*10+3,none⟩=some (.slice e2.C e2.n.dual.length e2.cc)∧wz.cell? ⟨g2,o2+k*10+4,none⟩=some (.int .i64 e2.n.ck)∧wz.cell? ⟨g2,o2+k*10+5,none⟩=some (.int .i64 e2.n.ca)∧wz.cell? ⟨g2,o2+k*10+6,none⟩=some (.int .i64 e2.n.cb)∧wz.cell? ⟨g2,o2+k*10+7,none⟩=some (.int .i64 e2.n.cn)∧wz.cell? ⟨g2,o2+k*10+8,none⟩=some (.int .i64 e2.n.yes)∧wz.cell? ⟨g2,o2+k*10+9,none⟩=some (.int .i64 e2.n.no) from by assumption).1
        go_wp2_with fail
        go_roundw
        case rel=>exact ⟨k+1,by omega,by go_num,HN.out,hbf⟩
        case measure=>simp [intOf];omega
      ·have HR:=Lib.hid (HNR.out (neq_get (xs:=xs.map (·.n)) (ys:=ys.map (·.n)) (k:=k) (by rw [HG1.out,HG2.out];exact fun e=>hm (by injection e))))
       have HSR:=Lib.hid (fun (w':World) (h:Below wB.heap.size wB w'∧w'.cell? ⟨w.heap.size,3,none⟩=some (.slice (some ⟨g1,o1,none⟩) xs.length cA)∧w'.cell? ⟨w.heap.size+1,3,none⟩=some (.slice (some ⟨g2,o2,none⟩) ys.length cA2)∧w'.cell? ⟨g1,o1+k*10,none⟩=some (.bool e1.n.leaf)∧w'.cell? ⟨g1,o1+k*10+1,none⟩=some (.int .i64 e1.n.kind)∧w'.cell? ⟨g1,o1+k*10+2,none⟩=some (.slice e1.A e1.n.cuts.length e1.ca)∧w'.cell? ⟨g1,o1+k*10+3,none⟩=some (.slice e1.C e1.n.dual.length e1.cc)∧w'.cell? ⟨g1,o1+k*10+4,none⟩=some (.int .i64 e1.n.ck)∧w'.cell? ⟨g1,o1+k*10+5,none⟩=some (.int .i64 e1.n.ca)∧w'.cell? ⟨g1,o1+k*10+6,none⟩=some (.int .i64 e1.n.cb)∧w'.cell? ⟨g1,o1+k*10+7,none⟩=some (.int .i64 e1.n.cn)∧w'.cell? ⟨g1,o1+k*10+8,none⟩=some (.int .i64 e1.n.yes)∧w'.cell? ⟨g1,o1+k*10+9,none⟩=some (.int .i64 e1.n.no)∧w'.cell? ⟨g2,o2+k*10,none⟩=some (.bool e2.n.leaf)∧w'.cell? ⟨g2,o2+k*10+1,none⟩=some (.int .i64 e2.n.kind)∧w'.cell? ⟨g2,o2+k*10+2,none⟩=some (.slice e2.A e2.n.cuts.length e2.ca)∧w'.cell? ⟨g2,o2+k*10+3,none⟩=some (.slice e2.C e2.n.dual.length e2.cc)∧w'.cell? ⟨g2,o2+k*10+4,none⟩=some (.int .i64 e2.n.ck)∧w'.cell? ⟨g2,o2+k*10+5,none⟩=some (.int .i64 e2.n.ca)∧w'.cell? ⟨g2,o2+k*10+6,none⟩=some (.int .i64 e2.n.cb)∧w'.cell? ⟨g2,o2+k*10+7,none⟩=some (.int .i64 e2.n.cn)∧w'.cell? ⟨g2,o2+k*10+8,none⟩=some (.int .i64 e2.n.yes)∧w'.cell? ⟨g2,o2+k*10+9,none⟩=some (.int .i64 e2.n.no))=>rnodes_any e1 e2 w' (HRX.out.below h.1) (HRY.out.below h.1))
       rw [eqv_false hm] at HSR
       clear hm
       go_wp2_with fail
       go_region_held3 (fun w'=>Below wB.heap.size wB w'∧w'.cell? ⟨w.heap.size,3,none⟩=some (.slice (some ⟨g1,o1,none⟩) xs.length cA)∧w'.cell? ⟨w.heap.size+1,3,none⟩=some (.slice (some ⟨g2,o2,none⟩) ys.length cA2)∧w'.cell? ⟨g1,o1+k*10,none⟩=some (.bool e1.n.leaf)∧w'.cell? ⟨g1,o1+k*10+1,none⟩=some (.int .i64 e1.n.kind)∧w'.cell? ⟨g1,o1+k*10+2,none⟩=some (.slice e1.A e1.n.cuts.length e1.ca)∧w'.cell? ⟨g1,o1+k*10+3,none⟩=some (.slice e1.C e1.n.dual.length e1.cc)∧w'.cell? ⟨g1,o1+k*10+4,none⟩=some (.int .i64 e1.n.ck)∧w'.cell? ⟨g1,o1+k*10+5,none⟩=some (.int .i64 e1.n.ca)∧w'.cell? ⟨g1,o1+k*10+6,none⟩=some (.int .i64 e1.n.cb)∧w'.cell? ⟨g1,o1+k*10+7,none⟩=some (.int .i64 e1.n.cn)∧w'.cell? ⟨g1,o1+k*10+8,none⟩=some (.int .i64 e1.n.yes)∧w'.cell? ⟨g1,o1+k*10+9,none⟩=some (.int .i64 e1.n.no)∧w'.cell? ⟨g2,o2+k*10,none⟩=some (.bool e2.n.leaf)∧w'.cell? ⟨g2,o2+k*10+1,none⟩=some (.int .i64 e2.n.kind)∧w'.cell? ⟨g2,o2+k*10+2,none⟩=some (.slice e2.A e2.n.cuts.length e2.ca)∧w'.cell? ⟨g2,o2+k*10+3,none⟩=some (.slice e2.C e2.n.dual.length e2.cc)∧w'.cell? ⟨g2,o2+k*10+4,none⟩=some (.int .i64 e2.n.ck)∧w'.cell? ⟨g2,o2+k*10+5,none⟩=some (.int .i64 e2.n.ca)∧w'.cell? ⟨g2,o2+k*10+6,none⟩=some (.int .i64 e2.n.cb)∧w'.cell? ⟨g2,o2+k*10+7,none⟩=some (.int .i64 e2.n.cn)∧w'.cell? ⟨g2,o2+k*10+8,none⟩=some (.int .i64 e2.n.yes)∧w'.cell? ⟨g2,o2+k*10+9,none⟩=some (.int .i64 e2.n.no))
        (first | (exact HKP.out _ _ (by assumption) hbz) | (with_reducible exact hS0))
        (first | (go_at_call 41;((with_reducible refine (HSR.out _ (by assumption)).mono ?_);rintro e wz ⟨rfl,hbz⟩)))
       all_goals
        have hbf:=(show Below wB.heap.size wB wz∧wz.cell? ⟨w.heap.size,3,none⟩=some (.slice (some ⟨g1,o1,none⟩) xs.length cA)∧wz.cell? ⟨w.heap.size+1,3,none⟩=some (.slice (some ⟨g2,o2,none⟩) ys.length cA2)∧wz.cell? ⟨g1,o1+k*10,none⟩=some (.bool e1.n.leaf)∧wz.cell? ⟨g1,o1+k*10+1,none⟩=some (.int .i64 e1.n.kind)∧wz.cell? ⟨g1,o1+k*10+2,none⟩=some (.slice e1.A e1.n.cuts.length e1.ca)∧wz.cell? ⟨g1,o1+k*10+3,none⟩=some (.slice e1.C e1.n.dual.length e1.cc)∧wz.cell? ⟨g1,o1+k*10+4,none⟩=some (.int .i64 e1.n.ck)∧wz.cell? ⟨g1,o1+k*10+5,none⟩=some (.int .i64 e1.n.ca)∧wz.cell? ⟨g1,o1+k*10+6,none⟩=some (.int .i64 e1.n.cb)∧wz.cell? ⟨g1,o1+k*10+7,none⟩=some (.int .i64 e1.n.cn)∧wz.cell? ⟨g1,o1+k*10+8,none⟩=some (.int .i64 e1.n.yes)∧wz.cell? ⟨g1,o1+k*10+9,none⟩=some (.int .i64 e1.n.no)∧wz.cell? ⟨g2,o2+k*10,none⟩=some (.bool e2.n.leaf)∧wz.cell? ⟨g2,o2+k*10+1,none⟩=some (.int .i64 e2.n.kind)∧wz.cell? ⟨g2,o2+k*10+2,none⟩=some (.slice e2.A e2.n.cuts.length e2.ca)∧wz.cell? ⟨g2,o2+k*10+3,none⟩=some (.slice e2.C e2.n.dual.length e2.cc)∧wz.cell? ⟨g2,o2+k*10+4,none⟩=some (.int .i64 e2.n.ck)∧wz.cell? ⟨g2,o2+k*10+5,none⟩=some (.int .i64 e2.n.ca)∧wz.cell? ⟨g2,o2+k*10+6,none⟩=some (.int .i64 e2.n.cb)∧wz.cell? ⟨g2,o2+k*10+7,none⟩=some (.int .i64 e2.n.cn)∧wz.cell? ⟨g2,o2+k*10+8,none⟩=some (.int .i64 e2.n.yes)∧wz.cell? ⟨g2,o2+k*10+9,none⟩=some (.int .i64 e2.n.no) from by assumption).1
        go_wp2_with fail
        go_ret
        rw [HR.out]
        exact ⟨rfl,below_lift HB.out hbf⟩
     ·have hkx:¬ (k:Int)<(xs.length:Int):=by omega
      have HF:=Lib.hid (HEU.out.all (by rw [List.length_map];omega) (by rw [List.length_map,List.length_map];exact HL.out))
      have HR:=Lib.hid (HEQ.out trivial HPV.out HF.out)
      go_wp2_with fail
      go_ret
      rw [HR.out]
      exact ⟨rfl,below_lift HB.out hbel⟩
   ·have hx:=HNR.out (fun e=>hl (by have:=congrArg List.length e;rwa [List.length_map,List.length_map] at this))
    subst hx
    have e1:((xs.length:Int) != (ys.length:Int))=true:=by rw [bne_iff_ne];omega
    clear hl
    go_wp2_with fail
    refine HCP.out.mono ?_
    rintro e wB ⟨rfl,hbB⟩
    obtain ⟨a0,a1,a2,a3⟩:=cells4 (row_keep HP1.out hbB)
    obtain ⟨b0,b1,b2,b3⟩:=cells4 (row_keep HP2.out hbB)
    go_wp2_with fail
    go_ret
    exact ⟨rfl,below_lift HB0.out hbB⟩
  ·rw [eqv_false hp] at HCP
   have hx:=HNP.out hp
   subst hx
   clear hp
   go_wp2_with fail
   refine HCP.out.mono ?_
   rintro e wB ⟨rfl,hbB⟩
   go_wp2_with fail
   go_ret
   exact ⟨rfl,below_lift HB0.out hbB⟩
 ·have hx:=HNN.out hn
  subst hx
  have e1:(n1 != n2)=true:=by rw [bne_iff_ne];exact hn
  have e2:(!(n1 == n2))=true:=by rw [← bne];exact e1
  have e3:(n1 == n2)=false:=by rw [beq_eq_false_iff_ne];exact hn
  clear hn
  go_wp2_with fail
  go_ret
  exact ⟨rfl,HB0.out⟩
structure FewP (p:ProofV):Prop where
 nl:p.nodes.length≤40
 node:∀ n ∈ p.nodes,n.cuts.length≤20∧n.dual.length≤20∧∀ d ∈ n.dual,d.length≤60
 plan:PlanFew p.plan
def FewE (m:ProofM) (e:Ending):Prop:=∃ b:Bool,e=.returned (.bool b)∧(b=true→FewP m.v)
set_option maxHeartbeats 4000000 in
set_option maxRecDepth 100000 in
theorem few_any (m:ProofM) (w:World) (hp:ProofAt w m) :
  Calls Tryz.prog 8 #[proofA m] w fun e w'=>FewE m e∧Below w.heap.size w w':=by
 obtain ⟨bw,o1⟩:=new_at w (proofB m)
 have HFW:=Lib.hid (fun (h1:m.ns.length≤40) (h2:m.P.rs.length≤6) (h3:m.P.us.length≤20) (h4:∀ q (h:q<m.ns.length),m.ns[q].n.cuts.length≤20∧m.ns[q].n.dual.length≤20∧∀ d ∈ m.ns[q].n.dual,d.length≤60) (h5:∀ q (h:q<m.P.rs.length),m.P.rs[q].r.rests.length≤21∧m.P.rs[q].r.vis.length≤20)=>(⟨by show (m.ns.map (·.n)).length≤40;rw [List.length_map];exact h1,fun n hn=>by
   obtain ⟨x,hx,rfl⟩:=List.mem_map.1 hn
   obtain ⟨q,hq,rfl⟩:=List.getElem_of_mem hx
   exact h4 q hq,⟨by show (m.P.rs.map (·.r)).length≤6;rw [List.length_map];exact h2,h3,fun r hr=>by
   obtain ⟨x,hx,rfl⟩:=List.mem_map.1 hr
   obtain ⟨q,hq,rfl⟩:=List.getElem_of_mem hx
   exact h5 q hq⟩⟩:FewP m.v))
 have l1:=hp.nl
 have l2:=hp.plan.rl
 have l3:=hp.plan.ul
 unfold maxLen at l1 l2 l3
 have HCN:=Lib.hid (hp.below bw).nodes
 have HEN:=Lib.hid (hp.below bw).each
 have HCR:=Lib.hid (hp.below bw).plan.rous
 have HER:=Lib.hid (hp.below bw).plan.each
 have HB:=Lib.hid bw
 have HO:=Lib.hid o1
 clear hp bw o1
 have HF0:=Lib.hid (show FewE m (.returned (.bool false)) from ⟨false,rfl,fun h=>absurd h (by decide)⟩)
 have HF1:=Lib.hid (fun (h:FewP m.v)=>(show FewE m (.returned (.bool true)) from ⟨true,rfl,fun _=>h⟩))
 generalize FewE m=FE at *
 generalize FewP m.v=FP at *
 obtain ⟨none1,⟨A,cA,rs,C,cC,us⟩,D,cD,ns⟩:=m
 simp only at HFW l1 l2 l3 HCN HEN HCR HER HF0 HF1
 go_enter Tryz.func8,Tryz.ntmps8
 go_upto_region 1 with fail
 generalize (w.alloc _)=wB at *
 obtain ⟨a0,a1,a2,a3⟩:=cells4 HO.out
 by_cases h40:ns.length≤40
 ·have i40:¬ (40:Int)<(ns.length:Int):=by omega
  by_cases h6:rs.length≤6
  ·have i6:¬ (6:Int)<(rs.length:Int):=by omega
   by_cases h20:us.length≤20
   ·have i20:¬ (20:Int)<(us.length:Int):=by omega
    go_wp2_with fail
    clear a0 a1 a2 a3
    have HBS:=Lib.hid (Below.refl wB.heap.size wB)
    go_loopw [2,3,4] (fun _ i _ wr=>∃ j:Nat,j≤ns.length∧i=.int .i64 j∧(∀ q (h:q<ns.length),q<j→ns[q].n.cuts.length≤20∧ns[q].n.dual.length≤20∧∀ d ∈ ns[q].n.dual,d.length≤60)∧Below wB.heap.size wB wr) (fun _ i _ _=>ns.length - (intOf i).toNat)
    case atStart=>exact ⟨0,by omega,rfl,fun q _ h=>absurd h (Nat.not_lt_zero _),HBS.out⟩
    case round =>
     clear HBS
     obtain ⟨j,hj,rfl,hq,hbel⟩:=hrel
     have HQ:=Lib.hid hq
     have HBL:=Lib.hid hbel
     clear hq
     obtain ⟨a0,a1,a2,a3⟩:=cells4 (row_keep HO.out hbel)
     by_cases hlt:j<ns.length
     ·have hjl:(j:Int)<(ns.length:Int):=by omega
      obtain ⟨g,o,hD,hg,hx⟩:=elems NodeM.cells_len (by decide) HCN.out (by omega)
      rw [hD] at a3
      have hxj:=hx j hlt
      have hen:=HEN.out _ (List.getElem_mem hlt)
      have HEJ:=Lib.hid hen
      have HNX:=Lib.hid (fun (h1:ns[j].n.cuts.length≤20) (h2:ns[j].n.dual.length≤20) (h3:∀ d ∈ ns[j].n.dual,d.length≤60)=>(show ∀ q (h:q<ns.length),q<j+1→ns[q].n.cuts.length≤20∧ns[q].n.dual.length≤20∧∀ d ∈ ns[q].n.dual,d.length≤60 from fun q h hq1=>by
       by_cases e:q=j
       ·subst e;exact ⟨h1,h2,h3⟩
       ·exact HQ.out q h (by omega)))
      clear hx hen
      generalize ns[j]=n at *
      have x2:wr.cell? ⟨g,o+j*10+2,none⟩=some (.slice n.A n.n.cuts.length n.ca):=(hbel.cell (p:=⟨g,o+j*10+2,none⟩) hg).trans (hxj 2 _ rfl)
      have x3:wr.cell? ⟨g,o+j*10+3,none⟩=some (.slice n.C n.n.dual.length n.cc):=(hbel.cell (p:=⟨g,o+j*10+3,none⟩) hg).trans (hxj 3 _ rfl)
      have HX3:=Lib.hid (hxj 3 _ rfl)
      have HOD:=Lib.hid (hD ▸ HO.out)
      clear hxj hD
      by_cases hc:n.n.cuts.length≤20
      ·have ic:¬ (20:Int)<(n.n.cuts.length:Int):=by omega
       by_cases hd:n.n.dual.length≤20
       ·have id:¬ (20:Int)<(n.n.dual.length:Int):=by omega
        go_wp2_with fail
        clear a0 a1 a2 a3 x2 x3
        have HBI:=Lib.hid hbel
        clear hbel HBL
        go_loopw [2,4] (fun _ k wr=>∃ t:Nat,t≤n.n.dual.length∧k=.int .i64 t∧(∀ d ∈ n.n.dual.take t,d.length≤60)∧Below wB.heap.size wB wr) (fun _ k _=>n.n.dual.length - (intOf k).toNat)
        case atStart=>exact ⟨0,by omega,rfl,fun d h=>absurd h (by simp),HBI.out⟩
        case round =>
         clear HBI
         obtain ⟨t,ht,rfl,hdt,hbel⟩:=hrel
         have HDT:=Lib.hid hdt
         clear hdt
         obtain ⟨a0,a1,a2,a3⟩:=cells4 (row_keep HOD.out hbel)
         have x3:=(hbel.cell (p:=⟨g,o+j*10+3,none⟩) hg).trans HX3.out
         by_cases htl:t<n.n.dual.length
         ·have itl:(t:Int)<(n.n.dual.length:Int):=by omega
          obtain ⟨g2,o2,hC,hg2,hx2⟩:=HEJ.out.dual (by rw [strs_length];omega)
          rw [hC] at x3
          have y0:wr.cell? ⟨g2,o2+t,none⟩=some (.string (B n.n.dual[t])):=(hbel.cell (p:=⟨g2,o2+t,none⟩) hg2).trans (hx2 t _ (strs_at n.n.dual t htl))
          have HTK:=Lib.hid (List.take_succ_eq_append_getElem htl)
          clear hx2 hC
          generalize n.n.dual[t]=d at *
          by_cases h60:d.length≤60
          ·have i60:¬ (60:Int)<(d.length:Int):=by omega
           have HN:=Lib.hid (show ∀ x ∈ n.n.dual.take (t+1),x.length≤60 from fun x hx=>by
            rw [HTK.out] at hx
            rcases List.mem_append.1 hx with hx | hx
            ·exact HDT.out x hx
            ·rw [List.mem_singleton.1 hx];exact h60)
           go_wp2_with fail
           go_roundw
           case rel=>exact ⟨t+1,by omega,by go_num,HN.out,hbel⟩
           case measure=>simp [intOf];omega
          ·have i60:(60:Int)<(d.length:Int):=by omega
           go_wp2_with fail
           go_ret
           exact ⟨HF0.out,below_lift HB.out hbel⟩
         ·have itl:¬ (t:Int)<(n.n.dual.length:Int):=by omega
          have HN:=Lib.hid (HNX.out hc hd (fun d hd2=>HDT.out d (by rw [List.take_of_length_le (by omega)];exact hd2)))
          go_wp2_with fail
          go_roundw
          case rel=>exact ⟨j+1,by omega,by go_num,HN.out,hbel⟩
          case measure=>simp [intOf];omega
       ·have id:(20:Int)<(n.n.dual.length:Int):=by omega
        go_wp2_with fail
        go_ret
        exact ⟨HF0.out,below_lift HB.out hbel⟩
      ·have ic:(20:Int)<(n.n.cuts.length:Int):=by omega
       go_wp2_with fail
       go_ret
       exact ⟨HF0.out,below_lift HB.out hbel⟩
     ·have hjl:¬ (j:Int)<(ns.length:Int):=by omega
      have HND:=Lib.hid (show ∀ q (h:q<ns.length),ns[q].n.cuts.length≤20∧ns[q].n.dual.length≤20∧∀ d ∈ ns[q].n.dual,d.length≤60 from fun q h=>HQ.out q h (by omega))
      have HBS:=Lib.hid hbel
      go_wp2_with fail
      clear a0 a1 a2 a3 hbel HBL HQ
      go_loopw [2,5] (fun _ i wr=>∃ j:Nat,j≤rs.length∧i=.int .i64 j∧(∀ q (h:q<rs.length),q<j→rs[q].r.rests.length≤21∧rs[q].r.vis.length≤20)∧Below wB.heap.size wB wr) (fun _ i _=>rs.length - (intOf i).toNat)
      case atStart=>exact ⟨0,by omega,rfl,fun q _ h=>absurd h (Nat.not_lt_zero _),HBS.out⟩
      case round =>
       clear HBS hlt hjl hj
       obtain ⟨j,hj,rfl,hq,hbel⟩:=hrel
       have HQ:=Lib.hid hq
       clear hq
       obtain ⟨a0,a1,a2,a3⟩:=cells4 (row_keep HO.out hbel)
       by_cases hlt:j<rs.length
       ·have hjl:(j:Int)<(rs.length:Int):=by omega
        obtain ⟨g,o,hD,hg,hx⟩:=elems RouM.cells_len (by decide) HCR.out (by omega)
        rw [hD] at a1
        have hxj:=hx j hlt
        have HNX:=Lib.hid (fun (h1:rs[j].r.rests.length≤21) (h2:rs[j].r.vis.length≤20)=>(show ∀ q (h:q<rs.length),q<j+1→rs[q].r.rests.length≤21∧rs[q].r.vis.length≤20 from fun q h hq1=>by
         by_cases e:q=j
         ·subst e;exact ⟨h1,h2⟩
         ·exact HQ.out q h (by omega)))
        clear hx hD
        generalize rs[j]=n at *
        have x2:wr.cell? ⟨g,o+j*4+2,none⟩=some (.slice n.A n.r.rests.length n.ca):=(hbel.cell (p:=⟨g,o+j*4+2,none⟩) hg).trans (hxj 2 _ rfl)
        have x3:wr.cell? ⟨g,o+j*4+3,none⟩=some (.slice n.C n.r.vis.length n.cc):=(hbel.cell (p:=⟨g,o+j*4+3,none⟩) hg).trans (hxj 3 _ rfl)
        clear hxj
        by_cases hv:n.r.vis.length≤20
        ·have iv:¬ (20:Int)<(n.r.vis.length:Int):=by omega
         by_cases hr:n.r.rests.length≤21
         ·have ir:¬ (21:Int)<(n.r.rests.length:Int):=by omega
          have HN:=Lib.hid (HNX.out hr hv)
          go_wp2_with fail
          go_roundw
          case rel=>exact ⟨j+1,by omega,by go_num,HN.out,hbel⟩
          case measure=>simp [intOf];omega
         ·have ir:(21:Int)<(n.r.rests.length:Int):=by omega
          go_wp2_with fail
          go_ret
          exact ⟨HF0.out,below_lift HB.out hbel⟩
        ·have iv:(20:Int)<(n.r.vis.length:Int):=by omega
         go_wp2_with fail
         go_ret
         exact ⟨HF0.out,below_lift HB.out hbel⟩
       ·have hjl:¬ (j:Int)<(rs.length:Int):=by omega
        have HR:=Lib.hid (HFW.out h40 h6 h20 HND.out (fun q h=>HQ.out q h (by omega)))
        go_wp2_with fail
        go_ret
        exact ⟨HF1.out HR.out,below_lift HB.out hbel⟩
   ·have i20:(20:Int)<(us.length:Int):=by omega
    go_wp2_with fail
    go_ret
    exact ⟨HF0.out,HB.out⟩
  ·have i6:(6:Int)<(rs.length:Int):=by omega
   go_wp2_with fail
   go_ret
   exact ⟨HF0.out,HB.out⟩
 ·have i40:(40:Int)<(ns.length:Int):=by omega
  go_wp2_with fail
  go_ret
  exact ⟨HF0.out,HB.out⟩
end Go.Proofs.YtljekdpgjaahjaaGreatDoor

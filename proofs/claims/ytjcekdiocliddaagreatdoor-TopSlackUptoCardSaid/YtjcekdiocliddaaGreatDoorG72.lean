/- order.Visits; slices.Index, Contains, IndexFunc, ContainsFunc over visits. (Printed by wip/tk/mkTmG.py.) -/
import Derived.Test.YtjcekdiocliddaaGreatDoorG66
import Derived.Test.YtjcekdiocliddaaGreatDoorTlG
import Derived.Test.YtjcekdiocliddaaGreatDoorG70
import Derived.OrdersHeld
namespace Go.Proofs.YtjcekdiocliddaaGreatDoor
open Go.RowKit Num Txt Pf Tk
set_option linter.unusedVariables false
attribute [local go_sem] B_size B_get B_toList B_mk B_extract B_append
abbrev visA (v:Int × Bool):Value:=.agg #[.int .i64 v.1,.bool v.2]
abbrev VisO (w:World) (Bs:Nat) (A:Option Addr) (c:Nat) (vs:List (Int × Bool)):Prop:=OwnR w Bs 92 2 A vs.length c (vs.flatMap visC)
def VisE (x:InsV) (i:Int) (w:World) (e:Ending) (w':World):Prop:=∃ (A:Option Addr) (c:Nat),e=.returned (.slice A (visitsOf x i).length c)∧VisO w' w.heap.size A c (visitsOf x i)∧Below w.heap.size w w'
theorem VisE.of {x:InsV} {i:Int} {w w':World} {A:Option Addr} {c n:Nat} {vs:List (Int × Bool)} (h:visitsOf x i=vs) (hn:n=vs.length) (ho:VisO w' w.heap.size A c vs) (hb:Below w.heap.size w w'):VisE x i w (.returned (.slice A n c)) w':=⟨A,c,by rw [h,hn],by rw [h];exact ho,hb⟩
theorem ordAt_in {m:InsM} {i:Int} (h0:0≤i) (h:i.toNat<m.ords.length):ordAt m.v i=some m.ords[i.toNat].o:=by
 unfold ordAt InsM.v
 rw [if_neg (by omega)]
 simp only [List.getElem?_map,List.getElem?_eq_getElem h,Option.map_some]
theorem ordAt_out {m:InsM} {i:Int} (h:(decide (0≤i) && decide (i<(m.ords.length:Int)))=false):ordAt m.v i=none:=by
 unfold ordAt InsM.v
 by_cases h0:i<0
 ·rw [if_pos h0]
 ·rw [if_neg h0]
  have h1:¬ i<(m.ords.length:Int):=fun h2=>by
   rw [decide_eq_true (show 0≤i by omega),decide_eq_true h2] at h
   cases h
  rw [List.getElem?_eq_none]
  rw [List.length_map]
  omega
section
variable {P:Program} {ops:Array Oper} {rest:List Oper} {o:Oper} {a:Act} {Q:Exit→Act→World→Prop}
theorem wp_vis {t e:TypeId} {z:Value} {sz bytes:Nat} (he:ElemR P t e z sz bytes) (hgd:o.guard=none) (s x:Operand) (ho:o.op=.call { callee:=.builtin .append,args:=#[s,x],argTypes:=#[t,t] }) (het:e=92) (hsz:sz=2) (hby:bytes=16)
  (Bs:Nat) (A:Option Addr) (n c:Nat) (vs:List (Int × Bool)) (hn:n=vs.length) (w:World) (v:Int × Bool) (hs:a.eval s=.slice A n c) (hown:VisO w Bs A c vs)
  (hx:a.eval x=.slice (some ⟨w.heap.size,0,none⟩) 1 1) (hl:vs.length≤1099511627776) (hbase:Bs≤w.heap.size)
  (h:∀ A' c' w',VisO w' Bs A' c' (vs ++ [v])→Below Bs w w'→KpA A w w'→wpList P ops Q rest (a.put o.dst (.slice A' (n+1) c')) w') :
  wpList P ops Q (o :: rest) a (w.alloc (.cells #[.int .i64 v.1,.bool v.2] e)):=by
 subst het hsz hby hn
 refine wp_appk he hgd s x ho Bs A vs.length c (vs.flatMap visC) w #[.int .i64 v.1,.bool v.2] hs hown hx rfl (by intro u hu;simp at hu;rcases hu with rfl | rfl <;> rfl) (by unfold maxLen;omega) (by omega) hbase ?_
 intro A' c' w' h1 h2 h3
 have hlen:=snoc_len vs v
 have e2:(vs ++ [v]).flatMap visC=vs.flatMap visC ++ [.int .i64 v.1,.bool v.2]:=by rw [← flat_snoc];rfl
 exact h A' c' w' (by show OwnR _ _ _ _ _ _ _ _;rw [hlen,e2];exact h1) h2 h3
end
set_option maxHeartbeats 8000000 in
set_option maxRecDepth 100000 in
theorem ovisits_any (m:InsM) (i:Int) (w:World) (hc:Cells w m.oA (m.ords.flatMap OrdM.cells)) (hn:m.ords.length≤m.oc∧m.oc≤maxLen) (hl:m.ords.length≤3) :
  Calls Tryz.prog 33 #[.slice m.oA m.ords.length m.oc,.int .i64 i] w (VisE m.v i w):=by
 have HC:=Lib.hid hc
 unfold maxLen at hn
 clear hc
 go_enter Tryz.func33,Tryz.ntmps33
 (try simp only [B_mk])
 go_wp2_with fail
 refine (othere_any m.oA m.ords.length m.oc i w hl).mono ?_
 rintro e w1 ⟨rfl,hw⟩
 obtain rfl:=hw.symm
 cases hth:(decide (0≤i) && decide (i<(m.ords.length:Int))) with
 |false =>
  have HV:=Lib.hid (show visitsOf m.v i=[] by unfold visitsOf;rw [ordAt_out hth])
  clear hth
  go_wp2_with fail
  go_ret
  exact VisE.of HV.out rfl (OwnR.nil _ _ _ _) (Below.refl _ _)
 |true =>
  obtain ⟨h1,h2⟩:=Bool.and_eq_true_iff.1 hth
  rw [decide_eq_true_eq] at h1 h2
  clear hth
  obtain ⟨k,hk⟩:∃ k:Nat,i=(k:Int):=⟨i.toNat,by omega⟩
  have hlt:k<m.ords.length:=by omega
  have HO:=Lib.hid (show ordAt m.v (k:Int)=some m.ords[k].o from ordAt_in (m:=m) (i:=(k:Int)) (by omega) (by simpa using hlt))
  obtain ⟨g1,o1,hA1,hg1,hx1⟩:=elemsP OrdM.cells_len (by decide) HC.out (by omega)
  have hx:=fun j u h=>hx1 k hlt j u h
  subst hk
  generalize m.ords[k]=om at *
  have x2:=hx 2 _ rfl
  have x6:=hx 6 _ rfl
  rw [hA1]
  clear hx hx1 hA1
  have HY:=Lib.hid (show w.cell? ⟨g1,o1+k*16+6,none⟩=some (.int .i64 om.o.drop.place) from x6)
  by_cases hp:0≤om.o.pick.place
  ·by_cases hd:0≤om.o.drop.place
   ·have HV:=Lib.hid (show visitsOf m.v (k:Int)=[] ++ [((k:Int),false)] ++ [((k:Int),true)] by unfold visitsOf;rw [HO.out];simp only [if_pos hp,if_pos hd];try rfl)
    clear HO
    go_upto_region 6 with (at_builtin;refine wp_vis el_pvis rfl _ _ rfl rfl rfl rfl w.heap.size none 0 0 [] rfl _ ((k:Int),false) rfl (OwnR.nil _ _ _ _) rfl (Nat.zero_le _) (Nat.le_refl _) ?_;intro A3 c3 w3 hown3 hb3 hkp3)
    have HO3:=Lib.hid hown3
    have HB3:=Lib.hid hb3
    have y6:=(hb3.cell (p:=⟨g1,o1+k*16+6,none⟩) hg1).trans HY.out
    clear hown3 hb3 hkp3 x2 x6 HY
    go_wp2_with (at_builtin;go_loud (refine wp_vis el_pvis rfl _ _ rfl rfl rfl rfl w.heap.size A3 1 c3 ([] ++ [((k:Int),false)]) rfl w3 ((k:Int),true) rfl HO3.out rfl (Nat.le_of_ble_eq_true rfl) HB3.out.size ?_;intro A4 c4 w4 hown4 hb4 hkp4))
    go_ret
    exact VisE.of HV.out rfl hown4 (HB3.out.trans hb4)
   ·have HV:=Lib.hid (show visitsOf m.v (k:Int)=[] ++ [((k:Int),false)] by unfold visitsOf;rw [HO.out];simp only [if_pos hp,if_neg hd];try rfl)
    clear HO
    go_upto_region 6 with (at_builtin;refine wp_vis el_pvis rfl _ _ rfl rfl rfl rfl w.heap.size none 0 0 [] rfl _ ((k:Int),false) rfl (OwnR.nil _ _ _ _) rfl (Nat.zero_le _) (Nat.le_refl _) ?_;intro A3 c3 w3 hown3 hb3 hkp3)
    have HO3:=Lib.hid hown3
    have HB3:=Lib.hid hb3
    have y6:=(hb3.cell (p:=⟨g1,o1+k*16+6,none⟩) hg1).trans HY.out
    clear hown3 hb3 hkp3 x2 x6 HY
    go_wp2_with fail
    go_ret
    exact VisE.of HV.out rfl HO3.out HB3.out
  ·by_cases hd:0≤om.o.drop.place
   ·have HV:=Lib.hid (show visitsOf m.v (k:Int)=[] ++ [((k:Int),true)] by unfold visitsOf;rw [HO.out];simp only [if_neg hp,if_pos hd];try rfl)
    clear HO
    go_wp2_with (at_builtin;go_loud (refine wp_vis el_pvis rfl _ _ rfl rfl rfl rfl w.heap.size none 0 0 [] rfl _ ((k:Int),true) rfl (OwnR.nil _ _ _ _) rfl (Nat.zero_le _) (Nat.le_refl _) ?_;intro A4 c4 w4 hown4 hb4 hkp4))
    go_ret
    exact VisE.of HV.out rfl hown4 hb4
   ·have HV:=Lib.hid (show visitsOf m.v (k:Int)=[] by unfold visitsOf;rw [HO.out];simp only [if_neg hp,if_neg hd];try rfl)
    clear HO
    go_wp2_with fail
    go_ret
    exact VisE.of HV.out rfl (OwnR.nil _ _ _ _) (Below.refl _ _)
set_option maxHeartbeats 4000000 in
set_option maxRecDepth 100000 in
theorem vindex_any (l:List (Int × Bool)) (v:Int × Bool) (A:Option Addr) (c:Nat) (w:World) (hc:Cells w A (l.flatMap visC)) (hn:l.length≤c∧c≤maxLen) :
  Calls Tryz.prog 161 #[.slice A l.length c,visA v] w fun e w'=>e=.returned (.int .i64 (idxZ (isVis v) l))∧Below w.heap.size w w':=by
 unfold maxLen at hn
 obtain ⟨n4,p4⟩:=new_at w (.cells #[.int .i64 v.1,.bool v.2] 92)
 have HC:=Lib.hid (hc.below n4)
 have HN4:=Lib.hid n4
 have HP4:=Lib.hid p4
 clear hc n4 p4
 go_enter Tryz.func161,Tryz.ntmps161
 (try simp only [B_mk])
 go_upto_region 1 with fail
 generalize w.alloc (.cells #[.int .i64 v.1,.bool v.2] 92)=wa at *
 obtain ⟨g4,hg4⟩:∃ g4,g4=w.heap.size:=⟨_,rfl⟩
 rw [← hg4] at HP4
 rw [← hg4]
 clear hg4
 go_wp2_with fail
 go_loopw [4,5,8] (fun _ _ j wr=>∃ k:Nat,k≤l.length∧j=.int .i64 k∧(∀ i (h:i<l.length),i<k→isVis v l[i]=false)∧Below wa.heap.size wa wr) (fun _ _ j _=>l.length - (intOf j).toNat)
 case atStart=>exact ⟨0,Nat.zero_le _,rfl,fun i _ h=>absurd h (Nat.not_lt_zero _),Below.refl _ _⟩
 case round =>
  obtain ⟨k,hk,rfl,hno,hbel⟩:=hrel
  have HNO:=Lib.hid hno
  have HB:=Lib.hid hbel
  have HQ:=Lib.hid (show ∀ nq,Below wa.heap.size wa (wr.drewN nq) from fun nq=>below_drewN hbel nq)
  clear hno hbel
  by_cases hlt:k<l.length
  ·have hlt1:(k:Int)<(l.length:Int):=by omega
   obtain ⟨g1,o1,hA1,hg1,hx1⟩:=elemsP visC_len (by decide) HC.out (by omega)
   subst hA1
   have x0:=(HB.out.cell (p:=⟨g1,o1+k*2+0,none⟩) hg1).trans (hx1 k hlt 0 _ rfl)
   have x1:=(HB.out.cell (p:=⟨g1,o1+k*2+1,none⟩) hg1).trans (hx1 k hlt 1 _ rfl)
   have y0:=cellsX (row_keep HP4.out HB.out) 0 (.int .i64 v.1) rfl
   have y1:=cellsX (row_keep HP4.out HB.out) 1 (.bool v.2) rfl
   rw [Nat.add_zero] at x0
   have HYES:=Lib.hid (fun h=>idxZ_at hlt HNO.out h)
   have HNEXT:=Lib.hid (show isVis v l[k]=false→∀ i (h:i<l.length),i<k+1→isVis v l[i]=false from fun h i hi hik=>by
    by_cases e:i=k
    ·subst e;exact h
    ·exact HNO.out i hi (by omega))
   clear hx1
   obtain ⟨u,hu⟩:∃ u,u=l[k]:=⟨_,rfl⟩
   rw [← hu] at x0 x1 HYES HNEXT
   clear hu
   by_cases h0:u.1=v.1
   ·rw [h0] at x0
    by_cases h1:u.2=v.2
    ·rw [h1] at x1
     have HR:=Lib.hid (HYES.out (isVis_iff.2 (Prod.ext h0 h1)))
     clear h0 h1 HYES HNEXT
     generalize v.1=v0 at *
     generalize v.2=v1 at *
     go_wp2_with fail
     go_quiet (fail)
     have HB0:=Lib.hid (HQ.out nq)
     go_wp2_with fail
     go_ret
     exact ⟨ret_int HR.out.symm,HN4.out.trans (HB0.out.mono HN4.out.size)⟩
    ·have HR:=Lib.hid (HNEXT.out (by unfold isVis;rw [h0,beq_eq_false_iff_ne.2 h1];simp))
     have e1:(v.2 == u.2)=false:=beq_eq_false_iff_ne.2 (fun e=>h1 e.symm)
     clear h0 h1 HYES HNEXT
     generalize v.1=v0 at *
     generalize v.2=v1 at *
     generalize u.2=u1 at *
     go_wp2_with fail
     go_quiet (fail)
     have HB0:=Lib.hid (HQ.out nq)
     go_wp2_with fail
     go_roundw
     case rel=>exact ⟨k+1,by omega,by go_num,HR.out,HB0.out⟩
     case measure=>simp [intOf];omega
   ·have HR:=Lib.hid (HNEXT.out (by unfold isVis;rw [beq_eq_false_iff_ne.2 h0];rfl))
    have e1:(v.1 == u.1)=false:=beq_eq_false_iff_ne.2 (fun e=>h0 e.symm)
    clear h0 HYES HNEXT
    generalize v.1=v0 at *
    generalize v.2=v1 at *
    generalize u.1=u0 at *
    generalize u.2=u1 at *
    go_wp2_with fail
    go_quiet (fail)
    have HB0:=Lib.hid (HQ.out nq)
    go_wp2_with fail
    go_roundw
    case rel=>exact ⟨k+1,by omega,by go_num,HR.out,HB0.out⟩
    case measure=>simp [intOf];omega
  ·have hlt1:¬ (k:Int)<(l.length:Int):=by omega
   have HR:=Lib.hid (idxZ_no (p:=isVis v) (l:=l) fun j hj=>HNO.out j hj (by omega))
   go_wp2_with fail
   go_ret
   exact ⟨ret_int HR.out.symm,HN4.out.trans (HB.out.mono HN4.out.size)⟩
set_option maxHeartbeats 4000000 in
set_option maxRecDepth 100000 in
theorem vcontains_any (l:List (Int × Bool)) (v:Int × Bool) (A:Option Addr) (c:Nat) (w:World) (hc:Cells w A (l.flatMap visC)) (hn:l.length≤c∧c≤maxLen) :
  Calls Tryz.prog 115 #[.slice A l.length c,visA v] w fun e w'=>e=.returned (.bool (hasVis l v))∧Below w.heap.size w w':=by
 obtain ⟨n4,p4⟩:=new_at w (.cells #[.int .i64 v.1,.bool v.2] 92)
 have HC:=Lib.hid (vindex_any l v A c _ (hc.below n4) hn)
 have HN4:=Lib.hid n4
 have HP4:=Lib.hid p4
 have HZ:=Lib.hid (show decide (0≤idxZ (isVis v) l)=hasVis l v from idxZ_any _ _)
 have hzb:=idxZ_bound (isVis v) l
 clear hc n4 p4
 go_enter Tryz.func115,Tryz.ntmps115
 (try simp only [B_mk])
 go_upto_region 1 with fail
 generalize w.alloc (.cells #[.int .i64 v.1,.bool v.2] 92)=wa at *
 go_wp2_with (refine wpList_load_row rfl 92 _ rfl w.heap.size rfl 92 _ _ _ HP4.out Tryz.underlying92 rfl (by kernel_rfl) ?_)
 refine HC.out.mono ?_
 rintro e w1 ⟨rfl,hb1⟩
 have HB1:=Lib.hid (below_lift HN4.out hb1)
 clear hb1 HC HP4
 generalize idxZ (isVis v) l=z at *
 go_wp2_with fail
 go_ret
 exact ⟨ret_bool HZ.out,HB1.out⟩
set_option maxHeartbeats 4000000 in
set_option maxRecDepth 100000 in
theorem vplace_any (l:List (Int × Bool)) (v:Int × Bool) (A:Option Addr) (c:Nat) (w:World) (hc:Cells w A (l.flatMap visC)) (hn:l.length≤c∧c≤maxLen) :
  Calls Tryz.prog 114 #[.slice A l.length c,visA v] w fun e w'=>e=.returned (.int .i64 (idxZ (isVis v) l))∧Below w.heap.size w w':=by
 obtain ⟨n4,p4⟩:=new_at w (.cells #[.int .i64 v.1,.bool v.2] 92)
 have HC:=Lib.hid (vindex_any l v A c _ (hc.below n4) hn)
 have HN4:=Lib.hid n4
 have HP4:=Lib.hid p4
 clear hc n4 p4
 go_enter Tryz.func114,Tryz.ntmps114
 (try simp only [B_mk])
 go_upto_region 1 with fail
 generalize w.alloc (.cells #[.int .i64 v.1,.bool v.2] 92)=wa at *
 go_wp2_with (refine wpList_load_row rfl 92 _ rfl w.heap.size rfl 92 _ _ _ HP4.out Tryz.underlying92 rfl (by kernel_rfl) ?_)
 refine HC.out.mono ?_
 rintro e w1 ⟨rfl,hb1⟩
 have HB1:=Lib.hid (below_lift HN4.out hb1)
 clear hb1 HC HP4
 go_wp2_with fail
 go_ret
 exact ⟨rfl,HB1.out⟩
set_option maxHeartbeats 4000000 in
set_option maxRecDepth 100000 in
theorem has1_any (v:Int × Bool) (o:Int) (g:Nat) (w:World) (hg:w.heap[g]? = some (.cells #[.int .i64 o] 3)) :
  Calls Tryz.prog 116 #[visA v,.pointer (some ⟨g,0,none⟩)] w fun e w'=>e=.returned (.bool (isOrd o v))∧Below w.heap.size w w':=by
 obtain ⟨n4,p4⟩:=new_at w (.cells #[.int .i64 v.1,.bool v.2] 92)
 have HN4:=Lib.hid n4
 have x0:=cellsX p4 0 (.int .i64 v.1) rfl
 have y0:=cellsX (row_keep hg n4) 0 (.int .i64 o) rfl
 clear hg n4 p4
 go_enter Tryz.func116,Tryz.ntmps116
 (try simp only [B_mk])
 go_upto_region 1 with fail
 generalize w.alloc (.cells #[.int .i64 v.1,.bool v.2] 92)=wa at *
 go_wp2_with fail
 go_ret
 exact ⟨rfl,HN4.out⟩
set_option maxHeartbeats 4000000 in
set_option maxRecDepth 100000 in
theorem before1_any (v:Int × Bool) (o:Int) (g:Nat) (w:World) (hg:w.heap[g]? = some (.cells #[.int .i64 o] 3)) :
  Calls Tryz.prog 117 #[visA v,.pointer (some ⟨g,0,none⟩)] w fun e w'=>e=.returned (.bool (isOrd o v))∧Below w.heap.size w w':=by
 obtain ⟨n4,p4⟩:=new_at w (.cells #[.int .i64 v.1,.bool v.2] 92)
 have HN4:=Lib.hid n4
 have x0:=cellsX p4 0 (.int .i64 v.1) rfl
 have y0:=cellsX (row_keep hg n4) 0 (.int .i64 o) rfl
 clear hg n4 p4
 go_enter Tryz.func117,Tryz.ntmps117
 (try simp only [B_mk])
 go_upto_region 1 with fail
 generalize w.alloc (.cells #[.int .i64 v.1,.bool v.2] 92)=wa at *
 go_wp2_with fail
 go_ret
 exact ⟨rfl,HN4.out⟩
theorem ords_len (m:InsM):m.v.ords.length=m.ords.length:=by unfold InsM.v;exact List.length_map ..
theorem badOrd_no {m:InsM} {v:Int × Bool} (h0:0≤v.1) (h1:v.1<(m.ords.length:Int)):badOrd m.v v=false:=by
 unfold badOrd inOrds
 rw [ords_len,decide_eq_true h0,decide_eq_true h1];rfl
theorem badOrd_neg {m:InsM} {v:Int × Bool} (h0:v.1<0):badOrd m.v v=true:=by
 unfold badOrd inOrds
 rw [decide_eq_false (by omega)];rfl
theorem badOrd_big {m:InsM} {v:Int × Bool} (h1:¬ v.1<(m.ords.length:Int)):badOrd m.v v=true:=by
 unfold badOrd inOrds
 rw [ords_len,decide_eq_false h1,Bool.and_false];rfl
set_option maxHeartbeats 4000000 in
set_option maxRecDepth 100000 in
theorem chk1_any (m:InsM) (v:Int × Bool) (g:Nat) (w:World) (hl:m.ords.length≤3) (hg:w.heap[g]? = some (.cells (insQ m) 30)) :
  Calls Tryz.prog 57 #[visA v,.pointer (some ⟨g,0,none⟩)] w fun e w'=>e=.returned (.bool (badOrd m.v v))∧Below w.heap.size w w':=by
 obtain ⟨n4,p4⟩:=new_at w (.cells #[.int .i64 v.1,.bool v.2] 92)
 have HN4:=Lib.hid n4
 have x0:=cellsX p4 0 (.int .i64 v.1) rfl
 have y3:=cellsX (row_keep hg n4) 3 (.slice m.oA m.ords.length m.oc) rfl
 clear hg n4 p4
 go_enter Tryz.func57,Tryz.ntmps57
 (try simp only [B_mk])
 go_upto_region 1 with fail
 generalize w.alloc (.cells #[.int .i64 v.1,.bool v.2] 92)=wa at *
 by_cases h0:v.1<0
 ·have HR:=Lib.hid (badOrd_neg (m:=m) h0)
  go_wp2_with fail
  go_ret
  exact ⟨ret_bool HR.out.symm,HN4.out⟩
 ·by_cases h1:v.1<(m.ords.length:Int)
  ·have h2:¬ (m.ords.length:Int)≤v.1:=by omega
   have HR:=Lib.hid (badOrd_no (m:=m) (v:=v) (by omega) h1)
   go_wp2_with fail
   go_ret
   exact ⟨ret_bool HR.out.symm,HN4.out⟩
  ·have h2:(m.ords.length:Int)≤v.1:=by omega
   have HR:=Lib.hid (badOrd_big (m:=m) h1)
   go_wp2_with fail
   go_ret
   exact ⟨ret_bool HR.out.symm,HN4.out⟩
set_option maxHeartbeats 4000000 in
set_option maxRecDepth 100000 in
theorem chk2_any (m:InsM) (v:Int × Bool) (g:Nat) (w:World) (hl:m.ords.length≤3) (hc:Cells w m.oA (m.ords.flatMap OrdM.cells)) (hn:m.ords.length≤m.oc∧m.oc≤maxLen) (hv:0≤v.1∧v.1<(m.ords.length:Int)) (hg:w.heap[g]? = some (.cells (insQ m) 30)) :
  Calls Tryz.prog 58 #[visA v,.pointer (some ⟨g,0,none⟩)] w fun e w'=>e=.returned (.bool (offV m.v v))∧Below w.heap.size w w':=by
 unfold maxLen at hn
 obtain ⟨v0,vd⟩:=v
 obtain ⟨k,hk⟩:∃ k:Nat,v0=(k:Int):=⟨v0.toNat,by have:=hv.1;simp only at this;omega⟩
 subst hk
 have hv2:=hv.2
 simp only at hv2
 have hlt:k<m.ords.length:=by omega
 have HR:=Lib.hid (show offV m.v ((k:Int),vd)=m.ords[k].o.off by unfold offV offOf;rw [show ordAt m.v (k:Int)=some m.ords[k].o from ordAt_in (m:=m) (i:=(k:Int)) (by omega) (by simpa using hlt)])
 obtain ⟨n4,p4⟩:=new_at w (.cells #[.int .i64 (k:Int),.bool vd] 92)
 have HN4:=Lib.hid n4
 have x0:=cellsX p4 0 (.int .i64 (k:Int)) rfl
 have y3:=cellsX (row_keep hg n4) 3 (.slice m.oA m.ords.length m.oc) rfl
 obtain ⟨g1,o1,hA1,hg1,hx1⟩:=elemsP OrdM.cells_len (by decide) (hc.below n4) (by omega)
 have x15:=hx1 k hlt 15 _ rfl
 rw [hA1] at y3
 generalize m.ords[k].o.off=b at *
 clear hg n4 p4 hc hx1 hv
 go_enter Tryz.func58,Tryz.ntmps58
 (try simp only [B_mk])
 go_upto_region 1 with fail
 generalize w.alloc (.cells #[.int .i64 (k:Int),.bool vd] 92)=wa at *
 go_wp2_with fail
 go_ret
 exact ⟨ret_bool HR.out.symm,HN4.out⟩
set_option maxHeartbeats 8000000 in
set_option maxRecDepth 100000 in
theorem has1_idx (l:List (Int × Bool)) (A:Option Addr) (c:Nat) (o:Int) (g:Nat) (w:World) (hc:Cells w A (l.flatMap visC)) (hn:l.length≤c∧c≤maxLen) (hg:w.heap[g]? = some (.cells #[.int .i64 o] 3)) :
  Calls Tryz.prog 113 #[.slice A l.length c,.func (Fn.func 116) #[] #[.pointer (some ⟨g,0,none⟩)]] w fun e w'=>e=.returned (.int .i64 (idxZ (isOrd o) l))∧Below w.heap.size w w':=by
 unfold maxLen at hn
 have HC:=Lib.hid hc
 have HF:=Lib.hid (show ∀ v ∈ l,∀ w',Below w.heap.size w w'→Calls Tryz.prog 116 #[visA v,.pointer (some ⟨g,0,none⟩)] w' (fun e w2=>e=.returned (.bool (isOrd o v))∧Below w'.heap.size w' w2) from fun v _ w2 hb=>has1_any v o g w2 (row_keep hg hb))
 clear hc hg
 go_enter Tryz.func113,Tryz.ntmps113
 go_wp2_with fail
 go_loopw [4,5,8] (fun _ _ j wr=>∃ k:Nat,k≤l.length∧j=.int .i64 k∧(∀ i (h:i<l.length),i<k→isOrd o l[i]=false)∧Below w.heap.size w wr) (fun _ _ j _=>l.length - (intOf j).toNat)
 case atStart=>exact ⟨0,Nat.zero_le _,rfl,fun i _ h=>absurd h (Nat.not_lt_zero _),Below.refl _ _⟩
 case round =>
  obtain ⟨k,hk,rfl,hno,hbel⟩:=hrel
  have HB:=Lib.hid hbel
  have HNO:=Lib.hid hno
  clear hbel hno
  by_cases hlt:k<l.length
  ·have hlt1:(k:Int)<(l.length:Int):=by omega
   obtain ⟨g1,o1,hA1,hg1,hx1⟩:=elemsP visC_len (by decide) HC.out (by omega)
   subst hA1
   have HX:=Lib.hid (fun j u h=>(HB.out.cell (p:=⟨g1,o1+k*2+j,none⟩) hg1).trans (hx1 k hlt j u h))
   have HFK:=Lib.hid (HF.out _ (List.getElem_mem hlt) wr HB.out)
   have HYES:=Lib.hid (fun h=>idxZ_at (p:=isOrd o) hlt HNO.out h)
   have HNEXT:=Lib.hid (show isOrd o l[k]=false→∀ i (h:i<l.length),i<k+1→isOrd o l[i]=false from fun h i hi hik=>by
    by_cases e:i=k
    ·subst e;exact h
    ·exact HNO.out i hi (by omega))
   obtain ⟨v,hv⟩:∃ v,v=l[k]:=⟨_,rfl⟩
   rw [← hv] at HX HFK HYES HNEXT
   clear hx1 hv
   go_wp2_with (refine wpList_load_cells rfl 92 _ rfl g1 (o1+k*2) rfl (visC v) _ HX.out Tryz.underlying92 rfl (by kernel_rfl) ?_)
   refine HFK.out.mono ?_
   rintro e w3 ⟨rfl,hb3⟩
   have HB3:=Lib.hid (below_lift HB.out hb3)
   clear hb3 HFK
   cases hp:isOrd o v with
   |true =>
    have HR:=Lib.hid (HYES.out hp)
    clear hp HYES HNEXT
    go_wp2_with fail
    go_ret
    exact ⟨ret_int HR.out.symm,HB3.out⟩
   |false =>
    have HR:=Lib.hid (HNEXT.out hp)
    clear hp HYES HNEXT
    go_wp2_with fail
    go_roundw
    case rel=>exact ⟨k+1,by omega,by go_num,HR.out,HB3.out⟩
    case measure=>simp [intOf];omega
  ·have hlt1:¬ (k:Int)<(l.length:Int):=by omega
   have HR:=Lib.hid (idxZ_no (p:=isOrd o) (l:=l) fun j hj=>HNO.out j hj (by omega))
   go_wp2_with fail
   go_ret
   exact ⟨ret_int HR.out.symm,HB.out⟩
set_option maxHeartbeats 4000000 in
set_option maxRecDepth 100000 in
theorem has1_cont (l:List (Int × Bool)) (A:Option Addr) (c:Nat) (o:Int) (g:Nat) (w:World) (hc:Cells w A (l.flatMap visC)) (hn:l.length≤c∧c≤maxLen) (hg:w.heap[g]? = some (.cells #[.int .i64 o] 3)) :
  Calls Tryz.prog 56 #[.slice A l.length c,.func (Fn.func 116) #[] #[.pointer (some ⟨g,0,none⟩)]] w fun e w'=>e=.returned (.bool (l.any (isOrd o)))∧Below w.heap.size w w':=by
 have H:=Lib.hid (has1_idx l A c o g w hc hn hg)
 have HZ:=Lib.hid (idxZ_any (isOrd o) l)
 have hzb:=idxZ_bound (isOrd o) l
 clear hc hn hg
 go_enter Tryz.func56,Tryz.ntmps56
 go_wp2_with fail
 refine H.out.mono ?_
 rintro e w1 ⟨rfl,hb⟩
 have HB:=Lib.hid hb
 clear hb H
 generalize idxZ (isOrd o) l=z at *
 go_wp2_with fail
 go_ret
 exact ⟨ret_bool HZ.out,HB.out⟩
set_option maxHeartbeats 8000000 in
set_option maxRecDepth 100000 in
theorem before1_idx (l:List (Int × Bool)) (A:Option Addr) (c:Nat) (o:Int) (g:Nat) (w:World) (hc:Cells w A (l.flatMap visC)) (hn:l.length≤c∧c≤maxLen) (hg:w.heap[g]? = some (.cells #[.int .i64 o] 3)) :
  Calls Tryz.prog 113 #[.slice A l.length c,.func (Fn.func 117) #[] #[.pointer (some ⟨g,0,none⟩)]] w fun e w'=>e=.returned (.int .i64 (idxZ (isOrd o) l))∧Below w.heap.size w w':=by
 unfold maxLen at hn
 have HC:=Lib.hid hc
 have HF:=Lib.hid (show ∀ v ∈ l,∀ w',Below w.heap.size w w'→Calls Tryz.prog 117 #[visA v,.pointer (some ⟨g,0,none⟩)] w' (fun e w2=>e=.returned (.bool (isOrd o v))∧Below w'.heap.size w' w2) from fun v _ w2 hb=>before1_any v o g w2 (row_keep hg hb))
 clear hc hg
 go_enter Tryz.func113,Tryz.ntmps113
 go_wp2_with fail
 go_loopw [4,5,8] (fun _ _ j wr=>∃ k:Nat,k≤l.length∧j=.int .i64 k∧(∀ i (h:i<l.length),i<k→isOrd o l[i]=false)∧Below w.heap.size w wr) (fun _ _ j _=>l.length - (intOf j).toNat)
 case atStart=>exact ⟨0,Nat.zero_le _,rfl,fun i _ h=>absurd h (Nat.not_lt_zero _),Below.refl _ _⟩
 case round =>
  obtain ⟨k,hk,rfl,hno,hbel⟩:=hrel
  have HB:=Lib.hid hbel
  have HNO:=Lib.hid hno
  clear hbel hno
  by_cases hlt:k<l.length
  ·have hlt1:(k:Int)<(l.length:Int):=by omega
   obtain ⟨g1,o1,hA1,hg1,hx1⟩:=elemsP visC_len (by decide) HC.out (by omega)
   subst hA1
   have HX:=Lib.hid (fun j u h=>(HB.out.cell (p:=⟨g1,o1+k*2+j,none⟩) hg1).trans (hx1 k hlt j u h))
   have HFK:=Lib.hid (HF.out _ (List.getElem_mem hlt) wr HB.out)
   have HYES:=Lib.hid (fun h=>idxZ_at (p:=isOrd o) hlt HNO.out h)
   have HNEXT:=Lib.hid (show isOrd o l[k]=false→∀ i (h:i<l.length),i<k+1→isOrd o l[i]=false from fun h i hi hik=>by
    by_cases e:i=k
    ·subst e;exact h
    ·exact HNO.out i hi (by omega))
   obtain ⟨v,hv⟩:∃ v,v=l[k]:=⟨_,rfl⟩
   rw [← hv] at HX HFK HYES HNEXT
   clear hx1 hv
   go_wp2_with (refine wpList_load_cells rfl 92 _ rfl g1 (o1+k*2) rfl (visC v) _ HX.out Tryz.underlying92 rfl (by kernel_rfl) ?_)
   refine HFK.out.mono ?_
   rintro e w3 ⟨rfl,hb3⟩
   have HB3:=Lib.hid (below_lift HB.out hb3)
   clear hb3 HFK
   cases hp:isOrd o v with
   |true =>
    have HR:=Lib.hid (HYES.out hp)
    clear hp HYES HNEXT
    go_wp2_with fail
    go_ret
    exact ⟨ret_int HR.out.symm,HB3.out⟩
   |false =>
    have HR:=Lib.hid (HNEXT.out hp)
    clear hp HYES HNEXT
    go_wp2_with fail
    go_roundw
    case rel=>exact ⟨k+1,by omega,by go_num,HR.out,HB3.out⟩
    case measure=>simp [intOf];omega
  ·have hlt1:¬ (k:Int)<(l.length:Int):=by omega
   have HR:=Lib.hid (idxZ_no (p:=isOrd o) (l:=l) fun j hj=>HNO.out j hj (by omega))
   go_wp2_with fail
   go_ret
   exact ⟨ret_int HR.out.symm,HB.out⟩
set_option maxHeartbeats 8000000 in
set_option maxRecDepth 100000 in
theorem chk1_idx (l:List (Int × Bool)) (A:Option Addr) (c:Nat) (m:InsM) (g:Nat) (w:World) (hc:Cells w A (l.flatMap visC)) (hn:l.length≤c∧c≤maxLen) (hl:m.ords.length≤3) (hg:w.heap[g]? = some (.cells (insQ m) 30)) :
  Calls Tryz.prog 113 #[.slice A l.length c,.func (Fn.func 57) #[] #[.pointer (some ⟨g,0,none⟩)]] w fun e w'=>e=.returned (.int .i64 (idxZ (badOrd m.v) l))∧Below w.heap.size w w':=by
 unfold maxLen at hn
 have HC:=Lib.hid hc
 have HF:=Lib.hid (show ∀ v ∈ l,∀ w',Below w.heap.size w w'→Calls Tryz.prog 57 #[visA v,.pointer (some ⟨g,0,none⟩)] w' (fun e w2=>e=.returned (.bool (badOrd m.v v))∧Below w'.heap.size w' w2) from fun v _ w2 hb=>chk1_any m v g w2 hl (row_keep hg hb))
 clear hc hg
 go_enter Tryz.func113,Tryz.ntmps113
 go_wp2_with fail
 go_loopw [4,5,8] (fun _ _ j wr=>∃ k:Nat,k≤l.length∧j=.int .i64 k∧(∀ i (h:i<l.length),i<k→badOrd m.v l[i]=false)∧Below w.heap.size w wr) (fun _ _ j _=>l.length - (intOf j).toNat)
 case atStart=>exact ⟨0,Nat.zero_le _,rfl,fun i _ h=>absurd h (Nat.not_lt_zero _),Below.refl _ _⟩
 case round =>
  obtain ⟨k,hk,rfl,hno,hbel⟩:=hrel
  have HB:=Lib.hid hbel
  have HNO:=Lib.hid hno
  clear hbel hno
  by_cases hlt:k<l.length
  ·have hlt1:(k:Int)<(l.length:Int):=by omega
   obtain ⟨g1,o1,hA1,hg1,hx1⟩:=elemsP visC_len (by decide) HC.out (by omega)
   subst hA1
   have HX:=Lib.hid (fun j u h=>(HB.out.cell (p:=⟨g1,o1+k*2+j,none⟩) hg1).trans (hx1 k hlt j u h))
   have HFK:=Lib.hid (HF.out _ (List.getElem_mem hlt) wr HB.out)
   have HYES:=Lib.hid (fun h=>idxZ_at (p:=badOrd m.v) hlt HNO.out h)
   have HNEXT:=Lib.hid (show badOrd m.v l[k]=false→∀ i (h:i<l.length),i<k+1→badOrd m.v l[i]=false from fun h i hi hik=>by
    by_cases e:i=k
    ·subst e;exact h
    ·exact HNO.out i hi (by omega))
   obtain ⟨v,hv⟩:∃ v,v=l[k]:=⟨_,rfl⟩
   rw [← hv] at HX HFK HYES HNEXT
   clear hx1 hv
   go_wp2_with (refine wpList_load_cells rfl 92 _ rfl g1 (o1+k*2) rfl (visC v) _ HX.out Tryz.underlying92 rfl (by kernel_rfl) ?_)
   refine HFK.out.mono ?_
   rintro e w3 ⟨rfl,hb3⟩
   have HB3:=Lib.hid (below_lift HB.out hb3)
   clear hb3 HFK
   cases hp:badOrd m.v v with
   |true =>
    have HR:=Lib.hid (HYES.out hp)
    clear hp HYES HNEXT
    go_wp2_with fail
    go_ret
    exact ⟨ret_int HR.out.symm,HB3.out⟩
   |false =>
    have HR:=Lib.hid (HNEXT.out hp)
    clear hp HYES HNEXT
    go_wp2_with fail
    go_roundw
    case rel=>exact ⟨k+1,by omega,by go_num,HR.out,HB3.out⟩
    case measure=>simp [intOf];omega
  ·have hlt1:¬ (k:Int)<(l.length:Int):=by omega
   have HR:=Lib.hid (idxZ_no (p:=badOrd m.v) (l:=l) fun j hj=>HNO.out j hj (by omega))
   go_wp2_with fail
   go_ret
   exact ⟨ret_int HR.out.symm,HB.out⟩
set_option maxHeartbeats 4000000 in
set_option maxRecDepth 100000 in
theorem chk1_cont (l:List (Int × Bool)) (A:Option Addr) (c:Nat) (m:InsM) (g:Nat) (w:World) (hc:Cells w A (l.flatMap visC)) (hn:l.length≤c∧c≤maxLen) (hl:m.ords.length≤3) (hg:w.heap[g]? = some (.cells (insQ m) 30)) :
  Calls Tryz.prog 56 #[.slice A l.length c,.func (Fn.func 57) #[] #[.pointer (some ⟨g,0,none⟩)]] w fun e w'=>e=.returned (.bool (l.any (badOrd m.v)))∧Below w.heap.size w w':=by
 have H:=Lib.hid (chk1_idx l A c m g w hc hn hl hg)
 have HZ:=Lib.hid (idxZ_any (badOrd m.v) l)
 have hzb:=idxZ_bound (badOrd m.v) l
 clear hc hn hg
 go_enter Tryz.func56,Tryz.ntmps56
 go_wp2_with fail
 refine H.out.mono ?_
 rintro e w1 ⟨rfl,hb⟩
 have HB:=Lib.hid hb
 clear hb H
 generalize idxZ (badOrd m.v) l=z at *
 go_wp2_with fail
 go_ret
 exact ⟨ret_bool HZ.out,HB.out⟩
set_option maxHeartbeats 8000000 in
set_option maxRecDepth 100000 in
theorem chk2_idx (l:List (Int × Bool)) (A:Option Addr) (c:Nat) (m:InsM) (g:Nat) (w:World) (hc:Cells w A (l.flatMap visC)) (hn:l.length≤c∧c≤maxLen) (hl:m.ords.length≤3) (hm:Cells w m.oA (m.ords.flatMap OrdM.cells)) (hmn:m.ords.length≤m.oc∧m.oc≤maxLen) (hv:∀ v ∈ l,0≤v.1∧v.1<(m.ords.length:Int)) (hg:w.heap[g]? = some (.cells (insQ m) 30)) :
  Calls Tryz.prog 113 #[.slice A l.length c,.func (Fn.func 58) #[] #[.pointer (some ⟨g,0,none⟩)]] w fun e w'=>e=.returned (.int .i64 (idxZ (offV m.v) l))∧Below w.heap.size w w':=by
 unfold maxLen at hn
 have HC:=Lib.hid hc
 have HF:=Lib.hid (show ∀ v ∈ l,∀ w',Below w.heap.size w w'→Calls Tryz.prog 58 #[visA v,.pointer (some ⟨g,0,none⟩)] w' (fun e w2=>e=.returned (.bool (offV m.v v))∧Below w'.heap.size w' w2) from fun v hvm w2 hb=>chk2_any m v g w2 hl (hm.below hb) hmn (hv v hvm) (row_keep hg hb))
 clear hc hg hm hmn hv
 go_enter Tryz.func113,Tryz.ntmps113
 go_wp2_with fail
 go_loopw [4,5,8] (fun _ _ j wr=>∃ k:Nat,k≤l.length∧j=.int .i64 k∧(∀ i (h:i<l.length),i<k→offV m.v l[i]=false)∧Below w.heap.size w wr) (fun _ _ j _=>l.length - (intOf j).toNat)
 case atStart=>exact ⟨0,Nat.zero_le _,rfl,fun i _ h=>absurd h (Nat.not_lt_zero _),Below.refl _ _⟩
 case round =>
  obtain ⟨k,hk,rfl,hno,hbel⟩:=hrel
  have HB:=Lib.hid hbel
  have HNO:=Lib.hid hno
  clear hbel hno
  by_cases hlt:k<l.length
  ·have hlt1:(k:Int)<(l.length:Int):=by omega
   obtain ⟨g1,o1,hA1,hg1,hx1⟩:=elemsP visC_len (by decide) HC.out (by omega)
   subst hA1
   have HX:=Lib.hid (fun j u h=>(HB.out.cell (p:=⟨g1,o1+k*2+j,none⟩) hg1).trans (hx1 k hlt j u h))
   have HFK:=Lib.hid (HF.out _ (List.getElem_mem hlt) wr HB.out)
   have HYES:=Lib.hid (fun h=>idxZ_at (p:=offV m.v) hlt HNO.out h)
   have HNEXT:=Lib.hid (show offV m.v l[k]=false→∀ i (h:i<l.length),i<k+1→offV m.v l[i]=false from fun h i hi hik=>by
    by_cases e:i=k
    ·subst e;exact h
    ·exact HNO.out i hi (by omega))
   obtain ⟨v,hv⟩:∃ v,v=l[k]:=⟨_,rfl⟩
   rw [← hv] at HX HFK HYES HNEXT
   clear hx1 hv
   go_wp2_with (refine wpList_load_cells rfl 92 _ rfl g1 (o1+k*2) rfl (visC v) _ HX.out Tryz.underlying92 rfl (by kernel_rfl) ?_)
   refine HFK.out.mono ?_
   rintro e w3 ⟨rfl,hb3⟩
   have HB3:=Lib.hid (below_lift HB.out hb3)
   clear hb3 HFK
   cases hp:offV m.v v with
   |true =>
    have HR:=Lib.hid (HYES.out hp)
    clear hp HYES HNEXT
    go_wp2_with fail
    go_ret
    exact ⟨ret_int HR.out.symm,HB3.out⟩
   |false =>
    have HR:=Lib.hid (HNEXT.out hp)
    clear hp HYES HNEXT
    go_wp2_with fail
    go_roundw
    case rel=>exact ⟨k+1,by omega,by go_num,HR.out,HB3.out⟩
    case measure=>simp [intOf];omega
  ·have hlt1:¬ (k:Int)<(l.length:Int):=by omega
   have HR:=Lib.hid (idxZ_no (p:=offV m.v) (l:=l) fun j hj=>HNO.out j hj (by omega))
   go_wp2_with fail
   go_ret
   exact ⟨ret_int HR.out.symm,HB.out⟩
set_option maxHeartbeats 4000000 in
set_option maxRecDepth 100000 in
theorem chk2_cont (l:List (Int × Bool)) (A:Option Addr) (c:Nat) (m:InsM) (g:Nat) (w:World) (hc:Cells w A (l.flatMap visC)) (hn:l.length≤c∧c≤maxLen) (hl:m.ords.length≤3) (hm:Cells w m.oA (m.ords.flatMap OrdM.cells)) (hmn:m.ords.length≤m.oc∧m.oc≤maxLen) (hv:∀ v ∈ l,0≤v.1∧v.1<(m.ords.length:Int)) (hg:w.heap[g]? = some (.cells (insQ m) 30)) :
  Calls Tryz.prog 56 #[.slice A l.length c,.func (Fn.func 58) #[] #[.pointer (some ⟨g,0,none⟩)]] w fun e w'=>e=.returned (.bool (l.any (offV m.v)))∧Below w.heap.size w w':=by
 have H:=Lib.hid (chk2_idx l A c m g w hc hn hl hm hmn hv hg)
 have HZ:=Lib.hid (idxZ_any (offV m.v) l)
 have hzb:=idxZ_bound (offV m.v) l
 clear hc hn hg hm hmn hv
 go_enter Tryz.func56,Tryz.ntmps56
 go_wp2_with fail
 refine H.out.mono ?_
 rintro e w1 ⟨rfl,hb⟩
 have HB:=Lib.hid hb
 clear hb H
 generalize idxZ (offV m.v) l=z at *
 go_wp2_with fail
 go_ret
 exact ⟨ret_bool HZ.out,HB.out⟩
theorem Cells.pre {w:World} {A:Option Addr} {xs ys:List Value} (h:Cells w A (xs ++ ys)):Cells w A xs:=fun h0=>by
 obtain ⟨b,off,e,hb,hx⟩:=h (by rw [List.length_append];omega)
 exact ⟨b,off,e,hb,fun j v hv=>hx j v (by rw [List.getElem?_append_left (List.getElem?_eq_some_iff.1 hv).1];exact hv)⟩
theorem vis_take {w:World} {A:Option Addr} {l:List (Int × Bool)} (h:Cells w A (l.flatMap visC)) (k:Nat):Cells w A ((l.take k).flatMap visC):=by
 have e:l.flatMap visC=(l.take k).flatMap visC ++ (l.drop k).flatMap visC:=by rw [← List.flatMap_append,List.take_append_drop]
 rw [e] at h
 exact h.pre
theorem vis_drop {w:World} {b o:Nat} {l:List (Int × Bool)} (hb:b<w.heap.size) (h:∀ i (hi:i<l.length) j u,(visC l[i])[j]? = some u→w.cell? ⟨b,o+i*2+j,none⟩=some u) (k:Nat):Cells w (some ⟨b,o+k*2,none⟩) ((l.drop k).flatMap visC):=fun h0=>by
 refine ⟨b,o+k*2,rfl,hb,fun j v hv=>?_⟩
 have hl:=flat_length visC visC_len (l.drop k)
 have hj:=(List.getElem?_eq_some_iff.1 hv).1
 rw [hl,List.length_drop] at hj
 have hd:j / 2<(l.drop k).length:=by rw [List.length_drop];omega
 have e:=flat_get visC visC_len (l.drop k) (j / 2) hd (j % 2) (Nat.mod_lt _ (by decide))
 have hi:k+j / 2<l.length:=by rw [List.length_drop] at hd;omega
 have e':j / 2*2+j % 2=j:=by omega
 rw [e',hv,List.getElem_drop] at e
 have:=h (k+j / 2) hi (j % 2) v e.symm
 rw [← this]
 congr 2
 omega
set_option maxHeartbeats 4000000 in
set_option maxRecDepth 100000 in
theorem shas_any (l:List (Int × Bool)) (o:Int) (A:Option Addr) (c:Nat) (w:World) (hc:Cells w A (l.flatMap visC)) (hn:l.length≤c∧c≤maxLen) :
  Calls Tryz.prog 61 #[.slice A l.length c,.int .i64 o] w fun e w'=>e=.returned (.bool (hasV l o))∧Below w.heap.size w w':=by
 obtain ⟨n4,p4⟩:=new_at w (.cells #[.int .i64 o] 3)
 have HC:=Lib.hid (has1_cont l A c o w.heap.size _ (hc.below n4) hn p4)
 have HN4:=Lib.hid n4
 clear hc n4 p4
 go_enter Tryz.func61,Tryz.ntmps61
 (try simp only [B_mk])
 go_upto_region 1 with fail
 generalize w.alloc (.cells #[.int .i64 o] 3)=wa at *
 go_wp2_with fail
 refine HC.out.mono ?_
 rintro e w1 ⟨rfl,hb1⟩
 have HB1:=Lib.hid (below_lift HN4.out hb1)
 clear hb1 HC
 go_wp2_with fail
 go_ret
 exact ⟨rfl,HB1.out⟩
set_option maxHeartbeats 8000000 in
set_option maxRecDepth 100000 in
theorem sbefore_any (l:List (Int × Bool)) (a b:Int) (A:Option Addr) (c:Nat) (w:World) (hc:Cells w A (l.flatMap visC)) (hn:l.length≤c∧c≤maxLen) :
  Calls Tryz.prog 62 #[.slice A l.length c,.int .i64 a,.int .i64 b] w fun e w'=>e=.returned (.bool (beforeV l a b))∧Below w.heap.size w w':=by
 obtain ⟨n4,p4⟩:=new_at w (.cells #[.int .i64 b] 3)
 have HC0:=Lib.hid (hc.below n4)
 have HC:=Lib.hid (before1_idx l A c b w.heap.size _ (hc.below n4) hn p4)
 have HN4:=Lib.hid n4
 have HN:=Lib.hid hn
 unfold maxLen at hn
 have HV:=Lib.hid (show beforeV l a b=if idxZ (isOrd b) l<0 then true else hasV l a && !hasV (l.drop (idxZ (isOrd b) l).toNat) a from rfl)
 have hzb:=idxZ_bound (isOrd b) l
 clear hc n4 p4
 go_enter Tryz.func62,Tryz.ntmps62
 (try simp only [B_mk])
 go_upto_region 1 with fail
 generalize w.alloc (.cells #[.int .i64 b] 3)=wa at *
 go_wp2_with fail
 refine HC.out.mono ?_
 rintro e w1 ⟨rfl,hb1⟩
 have HB1:=Lib.hid (below_lift HN4.out hb1)
 have HC1:=Lib.hid (HC0.out.below hb1)
 clear hb1 HC HC0
 generalize idxZ (isOrd b) l=z at *
 by_cases hz:z<0
 ·have HR:=Lib.hid (show beforeV l a b=true by rw [HV.out,if_pos hz])
  go_wp2_with fail
  go_ret
  exact ⟨ret_bool HR.out.symm,HB1.out⟩
 ·obtain ⟨k,rfl⟩:∃ k:Nat,z=(k:Int):=⟨z.toNat,by omega⟩
  have hk:k<l.length:=by omega
  have hkl:(k:Int)≤(l.length:Int):=by omega
  have HR:=Lib.hid (show beforeV l a b=(hasV l a && !hasV (l.drop k) a) by rw [HV.out,if_neg hz];rfl)
  go_wp2_with fail
  refine (shas_any l a A c w1 HC1.out HN.out).mono ?_
  rintro e w2 ⟨rfl,hb2⟩
  have HB2:=Lib.hid (below_lift HB1.out hb2)
  obtain ⟨g1,o1,hA1,hg1,hx1⟩:=elemsP visC_len (by decide) (HC1.out.below hb2) (by omega)
  have HD:=Lib.hid (shas_any (l.drop k) a (some ⟨g1,o1+k*2,none⟩) (c - k) w2 (vis_drop hg1 hx1 k) ⟨by rw [List.length_drop];omega,by unfold maxLen;omega⟩)
  rw [List.length_drop] at HD
  subst hA1
  clear hb2 hx1 HC1
  generalize hasV l a=b1 at *
  generalize hasV (l.drop k) a=b2 at *
  cases b1 with
  |false =>
   have HR2:=Lib.hid (show beforeV l a b=false from HR.out)
   go_wp2_with fail
   go_ret
   exact ⟨ret_bool HR2.out.symm,HB2.out⟩
  |true =>
   have HR2:=Lib.hid (show beforeV l a b=!b2 by rw [HR.out];rfl)
   clear HR
   go_wp2_with fail
   refine HD.out.mono ?_
   rintro e w3 ⟨rfl,hb3⟩
   have HB3:=Lib.hid (below_lift HB2.out hb3)
   clear hb3 HD
   go_wp2_with fail
   go_ret
   exact ⟨ret_bool HR2.out.symm,HB3.out⟩
set_option maxHeartbeats 8000000 in
set_option maxRecDepth 100000 in
theorem twice_any (l:List (Int × Bool)) (A:Option Addr) (c:Nat) (w:World) (hc:Cells w A (l.flatMap visC)) (hn:l.length≤c∧c≤maxLen) :
  Calls Tryz.prog 59 #[.slice A l.length c] w fun e w'=>e=.returned (.bool (twiceV l))∧Below w.heap.size w w':=by
 have HC:=Lib.hid hc
 have HN:=Lib.hid hn
 unfold maxLen at hn
 clear hc
 go_enter Tryz.func59,Tryz.ntmps59
 (try simp only [B_mk])
 go_wp2_with fail
 go_loopw [2,3,7] (fun _ _ j wr=>∃ k:Nat,k≤l.length∧j=.int .i64 k∧(∀ i (h:i<l.length),i<k→hasVis (l.take i) l[i]=false)∧Below w.heap.size w wr) (fun _ _ j _=>l.length - (intOf j).toNat)
 case atStart=>exact ⟨0,Nat.zero_le _,rfl,fun i _ h=>absurd h (Nat.not_lt_zero _),Below.refl _ _⟩
 case round =>
  obtain ⟨k,hk,rfl,hno,hbel⟩:=hrel
  have HB:=Lib.hid hbel
  have HNO:=Lib.hid hno
  clear hbel hno
  by_cases hlt:k<l.length
  ·have hlt1:(k:Int)<(l.length:Int):=by omega
   obtain ⟨g1,o1,hA1,hg1,hx1⟩:=elemsP visC_len (by decide) HC.out (by omega)
   have HCA:=Lib.hid (vis_take HC.out k)
   subst hA1
   have x0:=(HB.out.cell (p:=⟨g1,o1+k*2+0,none⟩) hg1).trans (hx1 k hlt 0 _ rfl)
   have x1:=(HB.out.cell (p:=⟨g1,o1+k*2+1,none⟩) hg1).trans (hx1 k hlt 1 _ rfl)
   rw [Nat.add_zero] at x0
   have HZ:=Lib.hid (idxZ_any (isVis l[k]) (l.take k))
   have HYES:=Lib.hid (fun h=>twiceV_yes hlt h)
   have HNEXT:=Lib.hid (show hasVis (l.take k) l[k]=false→∀ i (h:i<l.length),i<k+1→hasVis (l.take i) l[i]=false from fun h i hi hik=>by
    by_cases e:i=k
    ·subst e;exact h
    ·exact HNO.out i hi (by omega))
   have hlk:(l.take k).length=k:=by rw [List.length_take];omega
   have hkc:k≤c:=by omega
   clear hx1
   obtain ⟨u,hu⟩:∃ u,u=l[k]:=⟨_,rfl⟩
   rw [← hu] at x0 x1 HYES HNEXT HZ
   clear hu
   obtain ⟨n5,p5⟩:=new_at wr (.cells #[.int .i64 u.1,.bool u.2] 92)
   go_upto_region 4 with fail
   generalize hw5:wr.alloc (.cells #[.int .i64 u.1,.bool u.2] 92)=w5 at *
   clear hw5
   have HB5:=Lib.hid (below_lift HB.out n5)
   obtain ⟨g5,hg5⟩:∃ g5,g5=wr.heap.size:=⟨_,rfl⟩
   rw [← hg5] at p5
   rw [← hg5]
   have hd:Below w5.heap.size w5 w5.drew:=(Below.refl _ w5).drew
   have HP5d:=Lib.hid (row_keep p5 hd)
   have HBd:=Lib.hid (below_lift HB5.out hd)
   have hpl:=vplace_any (l.take k) u (some ⟨g1,o1,none⟩) c w5.drew (HCA.out.below HBd.out) ⟨by rw [hlk];exact hkc,HN.out.2⟩
   rw [hlk] at hpl
   have HPL:=Lib.hid hpl
   clear n5 p5 hg5 hd hpl x0 x1 hlk HB5
   obtain ⟨z,hz⟩:∃ z,z=idxZ (isVis u) (l.take k):=⟨_,rfl⟩
   rw [← hz] at HPL HZ
   clear hz
   by_cases hz0:0≤z
   ·have HR:=Lib.hid (HYES.out (by show (l.take k).any (isVis u)=true;rw [← HZ.out];exact decide_eq_true hz0))
    clear HYES HNEXT HZ
    have hS0:(fun w'=>w'.heap[g5]? = some (.cells #[.int .i64 u.1,.bool u.2] 92)) w5.drew:=HP5d.out
    refine wp_region_held_drew (S:=fun w'=>w'.heap[g5]? = some (.cells #[.int .i64 u.1,.bool u.2] 92)) (by kernel_rfl) hS0 (fun hHeld=>?_)
    refine wpAnyH_take (i:=0) (v:=?_) (by simp only [List.getElem?_toArray,List.getElem?_cons_zero];rfl) (by kernel_rfl) (by kernel_rfl) (by kernel_rfl) (by exact fun _ _ _ h=>h) (Or.inl ⟨by rfl,?_⟩) (by assumption) ?_
    rotate_left
    ·(intro w hSw;(try dsimp only at hSw);go_simp;(try with_reducible rfl))
    (try simp only [Act.put,List.setIfInBounds_toArray,List.set_cons_zero,List.set_cons_succ])
    refine wpAnyH_take (i:=1) (v:=?_) (by simp only [List.getElem?_toArray,List.getElem?_cons_succ,List.getElem?_cons_zero];rfl) (by kernel_rfl) (by kernel_rfl) (by kernel_rfl) (by exact fun _ _ _ h=>h) (Or.inl ⟨by rfl,?_⟩) (by assumption) ?_
    rotate_left
    ·(intro w hSw;(try dsimp only at hSw);go_simp;(try with_reducible rfl))
    (try simp only [Act.put,List.setIfInBounds_toArray,List.set_cons_zero,List.set_cons_succ])
    refine wpAnyH_take (i:=2) (v:=?_) (by simp only [List.getElem?_toArray,List.getElem?_cons_succ,List.getElem?_cons_zero];rfl) (by kernel_rfl) (by kernel_rfl) (by kernel_rfl) (by exact fun _ _ _ h=>h) (Or.inl ⟨by rfl,?_⟩) (by assumption) ?_
    rotate_left
    ·(intro w hSw;(try dsimp only at hSw);go_simp;(try with_reducible rfl))
    (try simp only [Act.put,List.setIfInBounds_toArray,List.set_cons_zero,List.set_cons_succ])
    refine wpAnyH_take (i:=3) (v:=.agg (#[.int .i64 u.1,.bool u.2])) (by simp only [List.getElem?_toArray,List.getElem?_cons_succ,List.getElem?_cons_zero];rfl) (by kernel_rfl) (by kernel_rfl) (by kernel_rfl) (by exact fun _ _ _ h=>h) (Or.inl ⟨by rfl,?_⟩) (by assumption) ?_
    ·(intro w hSw;exact yl_row 92 _ rfl g5 rfl 92 _ _ Tryz.underlying92 rfl (by kernel_rfl) (hSw))
    (try simp only [Act.put,List.setIfInBounds_toArray,List.set_cons_zero,List.set_cons_succ])
    refine wpAnyH_ready (rs:=[4]) (by kernel_rfl) (by simp) (AllReadyH.cons (by simp only [List.getElem?_toArray,List.getElem?_cons_succ,List.getElem?_cons_zero];rfl) (fun K hK=>?_) AllReadyH.nil)
    go_simp
    refine HPL.out.mono ?_
    rintro e w6 ⟨rfl,hb6⟩
    have HB6:=Lib.hid hb6
    refine hK.out _ _ (row_keep HP5d.out hb6) (fun hHeld=>?_)
    clear hK K
    (try simp only [Act.put,List.setIfInBounds_toArray,List.set_cons_zero,List.set_cons_succ])
    refine wpAnyH_take (i:=5) (v:=?_) (by simp only [List.getElem?_toArray,List.getElem?_cons_succ,List.getElem?_cons_zero];rfl) (by kernel_rfl) (by kernel_rfl) (by kernel_rfl) (by exact fun _ _ _ h=>h) (Or.inl ⟨by rfl,?_⟩) (by assumption) ?_
    rotate_left
    ·(intro w hSw;(try dsimp only at hSw);go_simp;(try with_reducible rfl))
    (try simp only [Act.put,List.setIfInBounds_toArray,List.set_cons_zero,List.set_cons_succ])
    refine wpAnyH_done (by kernel_rfl) ?_ _
    go_wp2_with fail
    go_ret
    exact ⟨ret_bool HR.out.symm,below_lift HBd.out HB6.out⟩
   ·have HR:=Lib.hid (HNEXT.out (by show (l.take k).any (isVis u)=false;rw [← HZ.out];exact decide_eq_false hz0))
    clear HYES HNEXT HZ
    have hS0:(fun w'=>w'.heap[g5]? = some (.cells #[.int .i64 u.1,.bool u.2] 92)) w5.drew:=HP5d.out
    refine wp_region_held_drew (S:=fun w'=>w'.heap[g5]? = some (.cells #[.int .i64 u.1,.bool u.2] 92)) (by kernel_rfl) hS0 (fun hHeld=>?_)
    refine wpAnyH_take (i:=0) (v:=?_) (by simp only [List.getElem?_toArray,List.getElem?_cons_zero];rfl) (by kernel_rfl) (by kernel_rfl) (by kernel_rfl) (by exact fun _ _ _ h=>h) (Or.inl ⟨by rfl,?_⟩) (by assumption) ?_
    rotate_left
    ·(intro w hSw;(try dsimp only at hSw);go_simp;(try with_reducible rfl))
    (try simp only [Act.put,List.setIfInBounds_toArray,List.set_cons_zero,List.set_cons_succ])
    refine wpAnyH_take (i:=1) (v:=?_) (by simp only [List.getElem?_toArray,List.getElem?_cons_succ,List.getElem?_cons_zero];rfl) (by kernel_rfl) (by kernel_rfl) (by kernel_rfl) (by exact fun _ _ _ h=>h) (Or.inl ⟨by rfl,?_⟩) (by assumption) ?_
    rotate_left
    ·(intro w hSw;(try dsimp only at hSw);go_simp;(try with_reducible rfl))
    (try simp only [Act.put,List.setIfInBounds_toArray,List.set_cons_zero,List.set_cons_succ])
    refine wpAnyH_take (i:=2) (v:=?_) (by simp only [List.getElem?_toArray,List.getElem?_cons_succ,List.getElem?_cons_zero];rfl) (by kernel_rfl) (by kernel_rfl) (by kernel_rfl) (by exact fun _ _ _ h=>h) (Or.inl ⟨by rfl,?_⟩) (by assumption) ?_
    rotate_left
    ·(intro w hSw;(try dsimp only at hSw);go_simp;(try with_reducible rfl))
    (try simp only [Act.put,List.setIfInBounds_toArray,List.set_cons_zero,List.set_cons_succ])
    refine wpAnyH_take (i:=3) (v:=.agg (#[.int .i64 u.1,.bool u.2])) (by simp only [List.getElem?_toArray,List.getElem?_cons_succ,List.getElem?_cons_zero];rfl) (by kernel_rfl) (by kernel_rfl) (by kernel_rfl) (by exact fun _ _ _ h=>h) (Or.inl ⟨by rfl,?_⟩) (by assumption) ?_
    ·(intro w hSw;exact yl_row 92 _ rfl g5 rfl 92 _ _ Tryz.underlying92 rfl (by kernel_rfl) (hSw))
    (try simp only [Act.put,List.setIfInBounds_toArray,List.set_cons_zero,List.set_cons_succ])
    refine wpAnyH_ready (rs:=[4]) (by kernel_rfl) (by simp) (AllReadyH.cons (by simp only [List.getElem?_toArray,List.getElem?_cons_succ,List.getElem?_cons_zero];rfl) (fun K hK=>?_) AllReadyH.nil)
    go_simp
    refine HPL.out.mono ?_
    rintro e w6 ⟨rfl,hb6⟩
    have HB6:=Lib.hid hb6
    refine hK.out _ _ (row_keep HP5d.out hb6) (fun hHeld=>?_)
    clear hK K
    (try simp only [Act.put,List.setIfInBounds_toArray,List.set_cons_zero,List.set_cons_succ])
    refine wpAnyH_take (i:=5) (v:=?_) (by simp only [List.getElem?_toArray,List.getElem?_cons_succ,List.getElem?_cons_zero];rfl) (by kernel_rfl) (by kernel_rfl) (by kernel_rfl) (by exact fun _ _ _ h=>h) (Or.inl ⟨by rfl,?_⟩) (by assumption) ?_
    rotate_left
    ·(intro w hSw;(try dsimp only at hSw);go_simp;(try with_reducible rfl))
    (try simp only [Act.put,List.setIfInBounds_toArray,List.set_cons_zero,List.set_cons_succ])
    refine wpAnyH_done (by kernel_rfl) ?_ _
    go_wp2_with fail
    go_roundw
    case rel=>exact ⟨k+1,by omega,by go_num,HR.out,below_lift HBd.out HB6.out⟩
    case measure=>simp [intOf];omega
  ·have hlt1:¬ (k:Int)<(l.length:Int):=by omega
   have HR:=Lib.hid (twiceV_no (l:=l) fun i hi=>HNO.out i hi (by omega))
   go_wp2_with fail
   go_ret
   exact ⟨ret_bool HR.out.symm,HB.out⟩
theorem visits_few (x:InsV) (i:Int):(visitsOf x i).length≤2:=by
 unfold visitsOf
 cases ordAt x i with
 |none=>simp
 |some o =>
  simp only [List.length_append]
  split <;> split <;> simp
set_option maxHeartbeats 8000000 in
set_option maxRecDepth 100000 in
theorem paired_any (m:InsM) (l:List (Int × Bool)) (A:Option Addr) (c:Nat) (w:World) (hm:Cells w m.oA (m.ords.flatMap OrdM.cells)) (hmn:m.ords.length≤m.oc∧m.oc≤maxLen) (hml:m.ords.length≤3) (hc:Cells w A (l.flatMap visC)) (hn:l.length≤c∧c≤maxLen) :
  Calls Tryz.prog 60 #[insA m,.slice A l.length c] w fun e w'=>e=.returned (.bool (pairedV m.v l))∧Below w.heap.size w w':=by
 have HC:=Lib.hid hc
 have HN:=Lib.hid hn
 unfold maxLen at hn
 obtain ⟨n4,p4⟩:=new_at w (.cells (insQ m) 30)
 have HN4:=Lib.hid n4
 have HP4:=Lib.hid p4
 have HVI:=Lib.hid (fun (i:Int) (w':World) (hb:Below w.heap.size w w')=>ovisits_any m i w' (hm.below hb) hmn hml)
 clear hc hm n4 p4
 go_enter Tryz.func60,Tryz.ntmps60
 (try simp only [B_mk])
 go_upto_region 1 with fail
 rw [show w.alloc (.cells #[.slice m.pA m.places.length m.pc,.slice m.aA m.arcs.length m.ac,.slice m.tA m.types.length m.tc,.slice m.oA m.ords.length m.oc,.slice m.xA m.apart.length m.xc,.slice m.bA m.before.length m.bc] 30)=w.alloc (.cells (insQ m) 30) from rfl]
 generalize w.alloc (.cells (insQ m) 30)=wa at *
 obtain ⟨g4,hg4⟩:∃ g4,g4=w.heap.size:=⟨_,rfl⟩
 rw [← hg4] at HP4
 rw [← hg4]
 clear hg4
 go_wp2_with fail
 go_loopw [4,14] (fun _ j wr=>∃ k:Nat,k≤l.length∧j=.int .i64 k∧(∀ i (h:i<l.length),i<k→(hasVis (visitsOf m.v l[i].1) l[i] && ascV l (-1) (visitsOf m.v l[i].1))=true)∧wr.heap[g4]? = some (.cells (insQ m) 30)∧Below w.heap.size w wr) (fun _ j _=>l.length - (intOf j).toNat)
 case atStart=>exact ⟨0,Nat.zero_le _,rfl,fun i _ h=>absurd h (Nat.not_lt_zero _),HP4.out,HN4.out⟩
 case round =>
  clear HP4 HN4
  obtain ⟨k,hk,rfl,hno,hr4,hbel⟩:=hrel
  have HB:=Lib.hid hbel
  have HNO:=Lib.hid hno
  have HR4:=Lib.hid hr4
  clear hbel hno hr4
  by_cases hlt:k<l.length
  ·have hlt1:(k:Int)<(l.length:Int):=by omega
   obtain ⟨g1,o1,hA1,hg1,hx1⟩:=elemsP visC_len (by decide) HC.out (by omega)
   have x0:=(HB.out.cell (p:=⟨g1,o1+k*2+0,none⟩) hg1).trans (hx1 k hlt 0 _ rfl)
   have x1:=(HB.out.cell (p:=⟨g1,o1+k*2+1,none⟩) hg1).trans (hx1 k hlt 1 _ rfl)
   rw [Nat.add_zero] at x0
   have HBAD:=Lib.hid (fun h=>paired_no (x:=m.v) hlt h)
   have HNEXT:=Lib.hid (show (hasVis (visitsOf m.v l[k].1) l[k] && ascV l (-1) (visitsOf m.v l[k].1))=true→∀ i (h:i<l.length),i<k+1→(hasVis (visitsOf m.v l[i].1) l[i] && ascV l (-1) (visitsOf m.v l[i].1))=true from fun h i hi hik=>by
    by_cases e:i=k
    ·subst e;exact h
    ·exact HNO.out i hi (by omega))
   have HA1:=Lib.hid hA1
   rw [hA1]
   clear hx1 hA1
   obtain ⟨u,hu⟩:∃ u,u=l[k]:=⟨_,rfl⟩
   rw [← hu] at x0 x1 HBAD HNEXT
   clear hu
   obtain ⟨n5,p5⟩:=new_at wr (.cells #[.int .i64 u.1,.bool u.2] 92)
   go_upto_region 4 with fail
   generalize hw5:wr.alloc (.cells #[.int .i64 u.1,.bool u.2] 92)=w5 at *
   clear hw5
   have HB5:=Lib.hid (below_lift HB.out n5)
   have HR45:=Lib.hid (row_keep HR4.out n5)
   have HP5:=Lib.hid p5
   obtain ⟨g5,hg5⟩:∃ g5,g5=wr.heap.size:=⟨_,rfl⟩
   rw [← hg5] at HP5
   rw [← hg5]
   clear n5 p5 hg5 x0 x1 HB HR4
   have y0:=cellsX HP5.out 0 (.int .i64 u.1) rfl
   have y3:=cellsX HR45.out 3 (.slice m.oA m.ords.length m.oc) rfl
   go_wp2_with fail
   refine (HVI.out u.1 w5 HB5.out).mono ?_
   rintro e w6 ⟨V,cv,rfl,hown,hb6⟩
   have HOW:=Lib.hid hown
   have HB6:=Lib.hid (below_lift HB5.out hb6)
   have HR46:=Lib.hid (row_keep HR45.out hb6)
   have HP6:=Lib.hid (row_keep HP5.out hb6)
   have hfew:=visits_few m.v u.1
   obtain ⟨own,ho⟩:∃ own,own=visitsOf m.v u.1:=⟨_,rfl⟩
   rw [← ho] at HOW HBAD HNEXT hfew
   rw [← ho]
   clear hown hb6 y0 y3 HR45 HP5 HB5 ho
   have HCO:=Lib.hid (OwnR.cells HOW.out)
   have hcap:=OwnR.cap HOW.out
   have HCAP:=Lib.hid hcap
   have HCT:=Lib.hid (vcontains_any own u V cv w6 HCO.out HCAP.out)
   unfold maxLen at hcap
   go_wp2_with (refine wpList_load_row rfl 92 _ rfl g5 rfl 92 _ _ _ HP6.out Tryz.underlying92 rfl (by kernel_rfl) ?_)
   refine HCT.out.mono ?_
   rintro e w7 ⟨rfl,hb7⟩
   have HB7:=Lib.hid (below_lift HB6.out hb7)
   have HR47:=Lib.hid (row_keep HR46.out hb7)
   have HCO7:=Lib.hid (HCO.out.below hb7)
   clear hb7 HCT HB6 HR46 HP6 HCO HOW
   cases hcv:hasVis own u with
   |false =>
    have HR:=Lib.hid (HBAD.out (by rw [hcv];rfl))
    clear hcv HBAD HNEXT
    go_wp2_with fail
    go_ret
    exact ⟨ret_bool HR.out.symm,HB7.out⟩
   |true =>
    have HBAD2:=Lib.hid (show ascV l (-1) own=false→pairedV m.v l=false from fun h=>HBAD.out (by rw [h,Bool.and_false]))
    have HNEXT2:=Lib.hid (fun (h:ascV l (-1) own=true)=>HNEXT.out (by rw [hcv,h];rfl))
    clear hcv HBAD HNEXT HNO
    generalize wr=wo at *
    go_wp2_with fail
    go_loopw [4,8,11,29] (fun _ la _ j wr=>∃ (i:Nat) (z:Int),i≤own.length∧j=.int .i64 i∧la=.int .i64 z∧(-1≤z∧z≤(l.length:Int))∧ascV l z (own.drop i)=ascV l (-1) own∧wr.heap[g4]? = some (.cells (insQ m) 30)∧Below w7.heap.size w7 wr) (fun _ _ _ j _=>own.length - (intOf j).toNat)
    case atStart=>exact ⟨0,-1,Nat.zero_le _,rfl,rfl,by omega,rfl,HR47.out,Below.refl _ _⟩
    case round =>
     obtain ⟨i,z,hi,rfl,rfl,hz,hasc,hr4,hbi⟩:=hrel
     have HBI:=Lib.hid hbi
     have HR4:=Lib.hid hr4
     have HASC:=Lib.hid hasc
     clear hbi hr4 hasc
     by_cases hil:i<own.length
     ·have hil1:(i:Int)<(own.length:Int):=by omega
      obtain ⟨g2,o2,hA2,hg2,hx2⟩:=elemsP visC_len (by decide) HCO7.out (by omega)
      have x0:=(HBI.out.cell (p:=⟨g2,o2+i*2+0,none⟩) hg2).trans (hx2 i hil 0 _ rfl)
      have x1:=(HBI.out.cell (p:=⟨g2,o2+i*2+1,none⟩) hg2).trans (hx2 i hil 1 _ rfl)
      rw [Nat.add_zero] at x0
      have HD:=Lib.hid (ascV_drop (l:=l) (last:=z) hil)
      have hzb:=idxZ_bound (isVis own[i]) l
      rw [hA2]
      clear hx2 hA2
      obtain ⟨v,hv⟩:∃ v,v=own[i]:=⟨_,rfl⟩
      rw [← hv] at x0 x1 HD hzb
      clear hv
      obtain ⟨n5,p5⟩:=new_at wr (.cells #[.int .i64 v.1,.bool v.2] 92)
      go_upto_region 11 with fail
      generalize hw5:wr.alloc (.cells #[.int .i64 v.1,.bool v.2] 92)=w8 at *
      clear hw5
      have HB8:=Lib.hid (below_lift HBI.out n5)
      have HR48:=Lib.hid (row_keep HR4.out n5)
      have HP8:=Lib.hid p5
      obtain ⟨g8,hg8⟩:∃ g8,g8=wr.heap.size:=⟨_,rfl⟩
      rw [← hg8] at HP8
      rw [← hg8]
      clear n5 p5 hg8 x0 x1 HBI HR4
      have hpl:=vplace_any l v A c w8 (HC.out.below (below_lift HB7.out HB8.out)) HN.out
      rw [HA1.out] at hpl
      have HPL:=Lib.hid hpl
      clear hpl
      go_wp2_with (refine wpList_load_row rfl 92 _ rfl g8 rfl 92 _ _ _ HP8.out Tryz.underlying92 rfl (by kernel_rfl) ?_)
      refine HPL.out.mono ?_
      rintro e w9 ⟨rfl,hb9⟩
      have HB9:=Lib.hid (below_lift HB8.out hb9)
      have HR49:=Lib.hid (row_keep HR48.out hb9)
      clear hb9 HPL HB8 HR48 HP8
      generalize idxZ (isVis v) l=y at *
      by_cases hy:y≤z
      ·have HR:=Lib.hid (HBAD2.out (by rw [← HASC.out,HD.out,decide_eq_false (by omega)];rfl))
       clear HD
       go_wp2_with fail
       go_ret
       exact ⟨ret_bool HR.out.symm,below_lift HB7.out HB9.out⟩
      ·have HN2:=Lib.hid (show ascV l y (own.drop (i+1))=ascV l (-1) own by rw [← HASC.out,HD.out,decide_eq_true (by omega)];rfl)
       clear HD
       go_wp2_with fail
       go_roundw
       case rel=>exact ⟨i+1,y,by omega,by go_num,rfl,by omega,HN2.out,HR49.out,HB9.out⟩
       case measure=>simp [intOf];omega
     ·have hil1:¬ (i:Int)<(own.length:Int):=by omega
      have HN3:=Lib.hid (HNEXT2.out (by rw [← HASC.out];exact ascV_end (by omega)))
      go_wp2_with fail
      go_roundw
      case rel=>exact ⟨k+1,by omega,by go_num,HN3.out,HR4.out,below_lift HB7.out HBI.out⟩
      case measure=>simp [intOf];omega
  ·have hlt1:¬ (k:Int)<(l.length:Int):=by omega
   have HR:=Lib.hid (paired_yes (x:=m.v) (l:=l) fun i hi=>HNO.out i hi (by omega))
   go_wp2_with fail
   go_ret
   exact ⟨ret_bool HR.out.symm,HB.out⟩
def SeqR (x:InsV) (vs:List (Int × Bool)) (w:World) (e:Ending) (w':World):Prop:=e=.returned (.int .i64 (seqE x vs))∧Below w.heap.size w w'
theorem SeqR.of {x:InsV} {vs:List (Int × Bool)} {w w':World} {k:Int} (h:seqE x vs=k) (hb:Below w.heap.size w w'):SeqR x vs w (.returned (.int .i64 k)) w':=⟨by rw [h],hb⟩
set_option maxHeartbeats 16000000 in
set_option maxRecDepth 100000 in
theorem scheck_any (m:InsM) (r:RouM) (w:World) (hm:InsAt w m) (hml:m.ords.length≤3) (hr:RouAt w r) :
  Calls Tryz.prog 19 #[insA m,rouA r] w (SeqR m.v r.r.vis w):=by
 obtain ⟨k1,k2,k3⟩:=alloc2 w (.cells (insQ m) 30) (.cells (rouR r) 34)
 have HB:=Lib.hid k3
 have HK1:=Lib.hid k1
 have HK2:=Lib.hid k2
 have HO:=Lib.hid hm.ords
 have hol:=hm.ol
 have HOL:=Lib.hid hm.ol
 have HX:=Lib.hid hm.apart
 have HBF:=Lib.hid hm.before
 have hxl:=hm.xl
 have hbl:=hm.bl
 have HV:=Lib.hid hr.vis
 have HVL:=Lib.hid hr.vl
 have hvl:=hr.vl
 have HXE:=Lib.hid (show m.v.apart=m.apart from rfl)
 have HBE:=Lib.hid (show m.v.before=m.before from rfl)
 have HS:=Lib.hid (show seqE m.v r.r.vis=if r.r.vis.length=0 then 2 else if r.r.vis.any (badOrd m.v) then 2 else if r.r.vis.any (offV m.v) then 9 else if twiceV r.r.vis then 6 else if !pairedV m.v r.r.vis then 19
  else if m.apart.any (apartBad r.r.vis) then 20 else if m.before.any (befBad r.r.vis) then 21 else 0 from rfl)
 unfold maxLen at hol hxl hbl hvl
 clear hm hr k1 k2 k3
 go_enter Tryz.func19,Tryz.ntmps19
 (try simp only [B_mk])
 go_upto_region 1 with fail
 rw [show (w.alloc (.cells #[.slice m.pA m.places.length m.pc,.slice m.aA m.arcs.length m.ac,.slice m.tA m.types.length m.tc,.slice m.oA m.ords.length m.oc,.slice m.xA m.apart.length m.xc,.slice m.bA m.before.length m.bc] 30)).alloc (.cells #[.int .i64 r.r.kind,.int .i64 r.r.start,.slice r.A r.r.rests.length r.ca,.slice r.C r.r.vis.length r.cc] 34)=(w.alloc (.cells (insQ m) 30)).alloc (.cells (rouR r) 34) from rfl]
 generalize (w.alloc (.cells (insQ m) 30)).alloc (.cells (rouR r) 34)=wa at *
 obtain ⟨h1,hh1⟩:∃ h1,h1=w.heap.size:=⟨_,rfl⟩
 obtain ⟨h2,hh2⟩:∃ h2,h2=w.heap.size+1:=⟨_,rfl⟩
 rw [← hh2] at HK2
 rw [← hh1] at HK1
 rw [← hh2,← hh1]
 clear hh1 hh2
 have r3:=cellsX HK2.out 3 (.slice r.C r.r.vis.length r.cc) rfl
 obtain ⟨vs,hvs⟩:∃ vs,vs=r.r.vis:=⟨_,rfl⟩
 rw [← hvs] at HV HVL hvl HS r3
 have HVS:=Lib.hid hvs
 clear hvs
 by_cases h0:vs.length=0
 ·have h0b:=int_bt (show (vs.length:Int)=0 by omega)
  have HR:=Lib.hid (show seqE m.v vs=2 by rw [HS.out,if_pos h0])
  clear h0
  go_wp2_with fail
  go_ret
  exact SeqR.of (by rw [← HVS.out];exact HR.out) HB.out
 ·have h0b:=int_bf (show ¬ (vs.length:Int)=0 by omega)
  have HS1:=Lib.hid (HS.out.trans (if_neg h0))
  have HC1:=Lib.hid (chk1_cont vs r.C r.cc m h1 wa (HV.out.below HB.out) HVL.out hml HK1.out)
  clear h0 HS
  go_upto_region 2 with fail
  go_wp2_with fail
  refine HC1.out.mono ?_
  rintro e w1 ⟨rfl,hb1⟩
  have HB1:=Lib.hid (below_lift HB.out hb1)
  have HK11:=Lib.hid (row_keep HK1.out hb1)
  clear hb1 HC1 HB HK1 HK2 r3
  cases hbad:vs.any (badOrd m.v) with
  |true =>
   have HR:=Lib.hid (show seqE m.v vs=2 by rw [HS1.out,if_pos hbad])
   clear hbad
   go_wp2_with fail
   go_ret
   exact SeqR.of (by rw [← HVS.out];exact HR.out) HB1.out
  |false =>
   have HS2:=Lib.hid (HS1.out.trans (if_neg (by rw [hbad];exact Bool.false_ne_true)))
   have HRNG:=Lib.hid (show ∀ v ∈ vs,0≤v.1∧v.1<(m.ords.length:Int) from fun v hv=>by rw [← ords_len m];exact bad_rng hbad v hv)
   have HC2:=Lib.hid (chk2_cont vs r.C r.cc m h1 w1 (HV.out.below HB1.out) HVL.out hml (HO.out.below HB1.out) HOL.out HRNG.out HK11.out)
   clear hbad HS1
   go_wp2_with fail
   refine HC2.out.mono ?_
   rintro e w2 ⟨rfl,hb2⟩
   have HB2:=Lib.hid (below_lift HB1.out hb2)
   have HK12:=Lib.hid (row_keep HK11.out hb2)
   clear hb2 HC2 HB1 HK11
   cases hoff:vs.any (offV m.v) with
   |true =>
    have HR:=Lib.hid (show seqE m.v vs=9 by rw [HS2.out,if_pos hoff])
    clear hoff
    go_wp2_with fail
    go_ret
    exact SeqR.of (by rw [← HVS.out];exact HR.out) HB2.out
   |false =>
    have HS3:=Lib.hid (HS2.out.trans (if_neg (by rw [hoff];exact Bool.false_ne_true)))
    have HC3:=Lib.hid (twice_any vs r.C r.cc w2 (HV.out.below HB2.out) HVL.out)
    clear hoff HS2
    go_wp2_with fail
    refine HC3.out.mono ?_
    rintro e w3 ⟨rfl,hb3⟩
    have HB3:=Lib.hid (below_lift HB2.out hb3)
    have HK13:=Lib.hid (row_keep HK12.out hb3)
    clear hb3 HC3 HB2 HK12
    cases htw:twiceV vs with
    |true =>
     have HR:=Lib.hid (show seqE m.v vs=6 by rw [HS3.out,if_pos htw])
     clear htw
     go_wp2_with fail
     go_ret
     exact SeqR.of (by rw [← HVS.out];exact HR.out) HB3.out
    |false =>
     have HS4:=Lib.hid (HS3.out.trans (if_neg (by rw [htw];exact Bool.false_ne_true)))
     have HC4:=Lib.hid (paired_any m vs r.C r.cc w3 (HO.out.below HB3.out) HOL.out hml (HV.out.below HB3.out) HVL.out)
     clear htw HS3
     go_wp2_with (refine wpList_load_row rfl 30 _ rfl h1 rfl 30 _ _ _ HK13.out Tryz.underlying30 rfl (by kernel_rfl) ?_)
     refine HC4.out.mono ?_
     rintro e w4 ⟨rfl,hb4⟩
     have HB4:=Lib.hid (below_lift HB3.out hb4)
     have HK14:=Lib.hid (row_keep HK13.out hb4)
     clear hb4 HC4 HB3 HK13
     cases hpa:pairedV m.v vs with
     |false =>
      have HR:=Lib.hid (show seqE m.v vs=19 by rw [HS4.out,if_pos (by rw [hpa];rfl)])
      clear hpa
      go_wp2_with fail
      go_ret
      exact SeqR.of (by rw [← HVS.out];exact HR.out) HB4.out
     |true =>
      have HS5:=Lib.hid (HS4.out.trans (if_neg (by rw [hpa];exact Bool.false_ne_true)))
      clear hpa HS4
      have r4:=cellsX HK14.out 4 (.slice m.xA m.apart.length m.xc) rfl
      go_wp2_with fail
      clear r4
      go_loopw [4,35] (fun _ j wr=>∃ k:Nat,k≤m.apart.length∧j=.int .i64 k∧(∀ i (h:i<m.apart.length),i<k→apartBad vs m.apart[i]=false)∧wr.heap[h1]? = some (.cells (insQ m) 30)∧Below w.heap.size w wr) (fun _ j _=>m.apart.length - (intOf j).toNat)
      case atStart=>exact ⟨0,Nat.zero_le _,rfl,fun i _ h=>absurd h (Nat.not_lt_zero _),HK14.out,HB4.out⟩
      case round =>
       clear HK14 HB4
       obtain ⟨k,hk,rfl,hno,hr1,hbel⟩:=hrel
       have HB:=Lib.hid hbel
       have HNO:=Lib.hid hno
       have HR1:=Lib.hid hr1
       clear hbel hno hr1
       by_cases hlt:k<m.apart.length
       ·have hlt1:(k:Int)<(m.apart.length:Int):=by omega
        obtain ⟨g1,o1,hA1,hg1,hx1⟩:=elemsP pntC_len (by decide) HX.out (by omega)
        have x0:=(HB.out.cell (p:=⟨g1,o1+k*2+0,none⟩) hg1).trans (hx1 k hlt 0 _ rfl)
        have x1:=(HB.out.cell (p:=⟨g1,o1+k*2+1,none⟩) hg1).trans (hx1 k hlt 1 _ rfl)
        rw [Nat.add_zero] at x0
        have HBAD:=Lib.hid (fun h=>any_yes (p:=apartBad vs) hlt h)
        have HNEXT:=Lib.hid (show apartBad vs m.apart[k]=false→∀ i (h:i<m.apart.length),i<k+1→apartBad vs m.apart[i]=false from fun h i hi hik=>by
         by_cases e:i=k
         ·subst e;exact h
         ·exact HNO.out i hi (by omega))
        rw [hA1]
        clear hx1 hA1
        obtain ⟨u,hu⟩:∃ u,u=m.apart[k]:=⟨_,rfl⟩
        rw [← hu] at x0 x1 HBAD HNEXT
        clear hu
        obtain ⟨u0,u1⟩:=u
        simp only at x0 x1
        obtain ⟨n5,p5⟩:=new_at wr (.cells #[.int .i64 u0,.int .i64 u1] 139)
        go_upto_region 13 with fail
        generalize hw5:wr.alloc (.cells #[.int .i64 u0,.int .i64 u1] 139)=w5 at *
        clear hw5
        have HB5:=Lib.hid (below_lift HB.out n5)
        have HR15:=Lib.hid (row_keep HR1.out n5)
        have HP5:=Lib.hid p5
        obtain ⟨g5,hg5⟩:∃ g5,g5=wr.heap.size:=⟨_,rfl⟩
        rw [← hg5] at HP5
        rw [← hg5]
        clear n5 p5 hg5 x0 x1 HB HR1
        have y0:=cellsX HP5.out 0 (.int .i64 u0) rfl
        have HH:=Lib.hid (fun (o:Int) (w':World) (hb:Below w.heap.size w w')=>shas_any vs o r.C r.cc w' (HV.out.below hb) HVL.out)
        go_wp2_with fail
        refine (HH.out u0 w5 HB5.out).mono ?_
        rintro e w6 ⟨rfl,hb6⟩
        have HB6:=Lib.hid (below_lift HB5.out hb6)
        have HR16:=Lib.hid (row_keep HR15.out hb6)
        have y1:=cellsX (row_keep HP5.out hb6) 1 (.int .i64 u1) rfl
        clear hb6 y0 HB5 HR15 HP5
        cases hh0:hasV vs u0 with
        |false =>
         have HN:=Lib.hid (HNEXT.out (by unfold apartBad;rw [hh0];rfl))
         clear hh0 HNEXT HBAD
         go_wp2_with fail
         go_roundw
         case rel=>exact ⟨k+1,by omega,by go_num,HN.out,HR16.out,HB6.out⟩
         case measure=>simp [intOf];omega
        |true =>
         have HN:=Lib.hid (show hasV vs u1=false→_ from fun h=>HNEXT.out (by unfold apartBad;rw [hh0,h];rfl))
         have HY:=Lib.hid (show hasV vs u1=true→_ from fun h=>HBAD.out (by unfold apartBad;rw [hh0,h];rfl))
         clear hh0 HNEXT HBAD
         go_wp2_with fail
         refine (HH.out u1 w6 HB6.out).mono ?_
         rintro e w7 ⟨rfl,hb7⟩
         have HB7:=Lib.hid (below_lift HB6.out hb7)
         have HR17:=Lib.hid (row_keep HR16.out hb7)
         clear hb7 y1 HB6 HR16
         cases hh1:hasV vs u1 with
         |false =>
          have HN2:=Lib.hid (HN.out hh1)
          clear hh1 HN HY
          go_wp2_with fail
          go_roundw
          case rel=>exact ⟨k+1,by omega,by go_num,HN2.out,HR17.out,HB7.out⟩
          case measure=>simp [intOf];omega
         |true =>
          have HR:=Lib.hid (show seqE m.v vs=20 by rw [HS5.out,if_pos (HY.out hh1)])
          clear hh1 HN HY
          go_wp2_with fail
          go_ret
          exact SeqR.of (by rw [← HVS.out];exact HR.out) HB7.out
       ·have hlt1:¬ (k:Int)<(m.apart.length:Int):=by omega
        have HS6:=Lib.hid (HS5.out.trans (if_neg (by rw [any_none (p:=apartBad vs) (l:=m.apart) fun i hi=>HNO.out i hi (by omega)];exact Bool.false_ne_true)))
        have r5:=cellsX HR1.out 5 (.slice m.bA m.before.length m.bc) rfl
        clear HS5 HNO
        generalize wr=wo at *
        go_wp2_with fail
        clear r5
        go_loopw [4,53] (fun _ j wr=>∃ k:Nat,k≤m.before.length∧j=.int .i64 k∧(∀ i (h:i<m.before.length),i<k→befBad vs m.before[i]=false)∧Below w.heap.size w wr) (fun _ j _=>m.before.length - (intOf j).toNat)
        case atStart=>exact ⟨0,Nat.zero_le _,rfl,fun i _ h=>absurd h (Nat.not_lt_zero _),HB.out⟩
        case round =>
         clear HR1 HB
         obtain ⟨i,hi,rfl,hno,hbel⟩:=hrel
         have HB:=Lib.hid hbel
         have HNO:=Lib.hid hno
         clear hbel hno
         by_cases hil:i<m.before.length
         ·have hil1:(i:Int)<(m.before.length:Int):=by omega
          obtain ⟨g1,o1,hA1,hg1,hx1⟩:=elemsP pntC_len (by decide) HBF.out (by omega)
          have x0:=(HB.out.cell (p:=⟨g1,o1+i*2+0,none⟩) hg1).trans (hx1 i hil 0 _ rfl)
          have x1:=(HB.out.cell (p:=⟨g1,o1+i*2+1,none⟩) hg1).trans (hx1 i hil 1 _ rfl)
          rw [Nat.add_zero] at x0
          have HBAD:=Lib.hid (fun h=>any_yes (p:=befBad vs) hil h)
          have HNEXT:=Lib.hid (show befBad vs m.before[i]=false→∀ j (h:j<m.before.length),j<i+1→befBad vs m.before[j]=false from fun h j hj hji=>by
           by_cases e:j=i
           ·subst e;exact h
           ·exact HNO.out j hj (by omega))
          rw [hA1]
          clear hx1 hA1
          obtain ⟨u,hu⟩:∃ u,u=m.before[i]:=⟨_,rfl⟩
          rw [← hu] at x0 x1 HBAD HNEXT
          clear hu
          obtain ⟨u0,u1⟩:=u
          simp only at x0 x1
          obtain ⟨n5,p5⟩:=new_at wr (.cells #[.int .i64 u0,.int .i64 u1] 139)
          go_upto_region 19 with fail
          generalize hw5:wr.alloc (.cells #[.int .i64 u0,.int .i64 u1] 139)=w5 at *
          clear hw5
          have HB5:=Lib.hid (below_lift HB.out n5)
          have HP5:=Lib.hid p5
          obtain ⟨g5,hg5⟩:∃ g5,g5=wr.heap.size:=⟨_,rfl⟩
          rw [← hg5] at HP5
          rw [← hg5]
          clear n5 p5 hg5 x0 x1 HB
          have y0:=cellsX HP5.out 0 (.int .i64 u0) rfl
          have y1:=cellsX HP5.out 1 (.int .i64 u1) rfl
          have HBC:=Lib.hid (sbefore_any vs u0 u1 r.C r.cc w5 (HV.out.below HB5.out) HVL.out)
          go_wp2_with fail
          refine HBC.out.mono ?_
          rintro e w6 ⟨rfl,hb6⟩
          have HB6:=Lib.hid (below_lift HB5.out hb6)
          clear hb6 y0 y1 HB5 HP5 HBC
          cases hbv:beforeV vs u0 u1 with
          |true =>
           have HN:=Lib.hid (HNEXT.out (by unfold befBad;rw [hbv];rfl))
           clear hbv HNEXT HBAD
           go_wp2_with fail
           go_roundw
           case rel=>exact ⟨i+1,by omega,by go_num,HN.out,HB6.out⟩
           case measure=>simp [intOf];omega
          |false =>
           have HR:=Lib.hid (show seqE m.v vs=21 by rw [HS6.out,if_pos (HBAD.out (by unfold befBad;rw [hbv];rfl))])
           clear hbv HNEXT HBAD
           go_wp2_with fail
           go_ret
           exact SeqR.of (by rw [← HVS.out];exact HR.out) HB6.out
         ·have hil1:¬ (i:Int)<(m.before.length:Int):=by omega
          have HR:=Lib.hid (show seqE m.v vs=0 by rw [HS6.out,if_neg (by rw [any_none (p:=befBad vs) (l:=m.before) fun j hj=>HNO.out j hj (by omega)];exact Bool.false_ne_true)])
          go_wp2_with fail
          go_ret
          exact SeqR.of (by rw [← HVS.out];exact HR.out) HB.out
end Go.Proofs.YtjcekdiocliddaaGreatDoor

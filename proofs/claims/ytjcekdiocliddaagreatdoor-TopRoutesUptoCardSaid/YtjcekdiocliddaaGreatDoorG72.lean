/- order.Visits; slices.Index, Contains, IndexFunc, ContainsFunc over visits. (Printed by wip/tk/mkTmG.py.) -/
import Derived.Test.YtjcekdiocliddaaGreatDoorG66
import Derived.Test.YtjcekdiocliddaaGreatDoorG71
import Derived.Test.YtjcekdiocliddaaGreatDoorG70
import Derived.OrdersHeld
namespace Go.Proofs.YtjcekdiocliddaaGreatDoor
open Lib (hid)
open Go.RowKit Num Txt Pf Tk
set_option maxHeartbeats 32000000
set_option maxRecDepth 100000
set_option linter.unusedVariables false
attribute [local go_sem] BS Bg Bt Bm Be Ba
abbrev vi (v:Int × Bool):Value:=.agg #[.int .i64 v.1,.bool v.2]
abbrev VO (w:World) (Bs:Nat) (A:Option Addr) (c:Nat) (vs:List (Int × Bool)):Prop:=OR w Bs 92 2 A vs.length c (vs.flatMap VC)
def VisE (x:IV) (i:Int) (w:World) (e:Ending) (w':World):Prop:=∃ (A:Option Addr) (c:Nat),e=.returned (.slice A (vO x i).length c)/\VO w' w.heap.size A c (vO x i)/\Below w.heap.size w w'
theorem VisE.of {x:IV} {i:Int} {w w':World} {A:Option Addr} {c n:Nat} {vs:List (Int × Bool)} (h:vO x i=vs) (hn:n=vs.length) (ho:VO w' w.heap.size A c vs) (hb:Below w.heap.size w w'):VisE x i w (.returned (.slice A n c)) w':=⟨A,c,by rw [h,hn],by rw [h];exact ho,hb⟩
theorem On {m:IM} {i:Int} (h0:0<=i) (h:i.toNat<m.ords.length):OA m.v i=some m.ords[i.toNat].o:=by
 unfold OA IM.v;rw [if_neg (by omega)];simp only [List.getElem?_map,List.getElem?_eq_getElem h,Option.map_some]
theorem ordAt_out {m:IM} {i:Int} (h:(decide (0<=i) && decide (i<(m.ords.length:Int)))=false):OA m.v i=none:=by
 unfold OA IM.v;by_cases h0:i<0
 ·rw [if_pos h0]
 ·rw [if_neg h0]
  have h1:¬ i<(m.ords.length:Int):=fun h2=>by
   rw [decide_eq_true (show 0<=i by omega),decide_eq_true h2] at h;cases h
  rw [List.getElem?_eq_none];rw [List.length_map];omega
section
variable {P:Program} {ops:Array Oper} {rest:List Oper} {o:Oper} {a:Act} {Q:Exit->Act->World->Prop}
theorem wp_vis {t e:TypeId} {z:Value} {sz bytes:Nat} (he:ER P t e z sz bytes) (hgd:o.guard=none) (s x:Operand) (ho:o.op=.call { callee:=.builtin .append,args:=#[s,x],argTypes:=#[t,t] }) (het:e=92) (hsz:sz=2) (hby:bytes=16)
  (Bs:Nat) (A:Option Addr) (n c:Nat) (vs:List (Int × Bool)) (hn:n=vs.length) (w:World) (v:Int × Bool) (hs:a.eval s=.slice A n c) (hown:VO w Bs A c vs)
  (hx:a.eval x=.slice (some ⟨w.heap.size,0,none⟩) 1 1) (hl:vs.length<=1099511627776) (hbase:Bs<=w.heap.size)
  (h:∀ A' c' w',VO w' Bs A' c' (vs ++ [v])->Below Bs w w'->KA A w w'->wpList P ops Q rest (a.put o.dst (.slice A' (n+1) c')) w') :
  wpList P ops Q (o :: rest) a (w.alloc (.cells #[.int .i64 v.1,.bool v.2] e)):=by
 subst het hsz hby hn;refine wk he hgd s x ho Bs A vs.length c (vs.flatMap VC) w #[.int .i64 v.1,.bool v.2] hs hown hx rfl (by intro u hu;simp at hu;rcases hu with rfl | rfl <;> rfl) (by unfold maxLen;omega) (by omega) hbase ?_;intro A' c' w' h1 h2 h3;have hlen:=sL vs v;have e2:(vs ++ [v]).flatMap VC=vs.flatMap VC ++ [.int .i64 v.1,.bool v.2]:=by rw [<- Fs];rfl
 exact h A' c' w' (by show OR _ _ _ _ _ _ _ _;rw [hlen,e2];exact h1) h2 h3
end
theorem Oa (m:IM) (i:Int) (w:World) (hc:Cs w m.oA (m.ords.flatMap OM.cells)) (hn:m.ords.length<=m.oc/\m.oc<=maxLen) (hl:m.ords.length<=3) :
  Calls Tryz.prog 33 #[.slice m.oA m.ords.length m.oc,.int .i64 i] w (VisE m.v i w):=by
 have HC:=hid hc;unfold maxLen at hn;clear hc;go_enter Tryz.func33,Tryz.ntmps33;(try simp only [Bm]);go_wp2_with fail;refine (othere_any m.oA m.ords.length m.oc i w hl).mono ?_;rintro e w1 ⟨rfl,hw⟩;obtain rfl:=hw.symm
 cases hth:(decide (0<=i) && decide (i<(m.ords.length:Int))) with
 |false =>
  have HV:=hid (show vO m.v i=[] by unfold vO;rw [ordAt_out hth]);clear hth;go_wp2_with fail;go_ret;exact VisE.of HV.out rfl (OR.nil _ _ _ _) (Below.refl _ _)
 |true =>
  obtain ⟨h1,h2⟩:=Bool.and_eq_true_iff.1 hth;rw [decide_eq_true_eq] at h1 h2;clear hth;obtain ⟨k,hk⟩:∃ k:Nat,i=(k:Int):=⟨i.toNat,by omega⟩
  have hlt:k<m.ords.length:=by omega
  have HO:=hid (show OA m.v (k:Int)=some m.ords[k].o from On (m:=m) (i:=(k:Int)) (by omega) (by simpa using hlt));obtain ⟨g1,o1,hA1,hg1,hx1⟩:=eP OM.cells_len (by decide) HC.out (by omega);have hx:=fun j u h=>hx1 k hlt j u h;subst hk;generalize m.ords[k]=om at *;have x2:=hx 2 _ rfl;have x6:=hx 6 _ rfl;rw [hA1];clear hx hx1 hA1
  have HY:=hid (show w.cell? ⟨g1,o1+k*16+6,none⟩=some (.int .i64 om.o.drop.place) from x6);by_cases hp:0<=om.o.pick.place
  ·by_cases hd:0<=om.o.drop.place
   ·have HV:=hid (show vO m.v (k:Int)=[] ++ [((k:Int),false)] ++ [((k:Int),true)] by unfold vO;rw [HO.out];simp only [if_pos hp,if_pos hd];try rfl)
    clear HO;go_upto_region 6 with (at_builtin;refine wp_vis ep rfl _ _ rfl rfl rfl rfl w.heap.size none 0 0 [] rfl _ ((k:Int),false) rfl (OR.nil _ _ _ _) rfl (Nat.zero_le _) (Nat.le_refl _) ?_;intro A3 c3 w3 hown3 hb3 hkp3)
    have HO3:=hid hown3;have HB3:=hid hb3;have y6:=(hb3.cell (p:=⟨g1,o1+k*16+6,none⟩) hg1).trans HY.out;clear hown3 hb3 hkp3 x2 x6 HY;go_wp2_with (at_builtin;go_loud (refine wp_vis ep rfl _ _ rfl rfl rfl rfl w.heap.size A3 1 c3 ([] ++ [((k:Int),false)]) rfl w3 ((k:Int),true) rfl HO3.out rfl (Nat.le_of_ble_eq_true rfl) HB3.out.size ?_;intro A4 c4 w4 hown4 hb4 hkp4))
    go_ret;exact VisE.of HV.out rfl hown4 (HB3.out.trans hb4)
   ·have HV:=hid (show vO m.v (k:Int)=[] ++ [((k:Int),false)] by unfold vO;rw [HO.out];simp only [if_pos hp,if_neg hd];try rfl)
    clear HO;go_upto_region 6 with (at_builtin;refine wp_vis ep rfl _ _ rfl rfl rfl rfl w.heap.size none 0 0 [] rfl _ ((k:Int),false) rfl (OR.nil _ _ _ _) rfl (Nat.zero_le _) (Nat.le_refl _) ?_;intro A3 c3 w3 hown3 hb3 hkp3)
    have HO3:=hid hown3;have HB3:=hid hb3;have y6:=(hb3.cell (p:=⟨g1,o1+k*16+6,none⟩) hg1).trans HY.out;clear hown3 hb3 hkp3 x2 x6 HY;go_wp2_with fail;go_ret;exact VisE.of HV.out rfl HO3.out HB3.out
  ·by_cases hd:0<=om.o.drop.place
   ·have HV:=hid (show vO m.v (k:Int)=[] ++ [((k:Int),true)] by unfold vO;rw [HO.out];simp only [if_neg hp,if_pos hd];try rfl)
    clear HO;go_wp2_with (at_builtin;go_loud (refine wp_vis ep rfl _ _ rfl rfl rfl rfl w.heap.size none 0 0 [] rfl _ ((k:Int),true) rfl (OR.nil _ _ _ _) rfl (Nat.zero_le _) (Nat.le_refl _) ?_;intro A4 c4 w4 hown4 hb4 hkp4))
    go_ret;exact VisE.of HV.out rfl hown4 hb4
   ·have HV:=hid (show vO m.v (k:Int)=[] by unfold vO;rw [HO.out];simp only [if_neg hp,if_neg hd];try rfl)
    clear HO;go_wp2_with fail;go_ret;exact VisE.of HV.out rfl (OR.nil _ _ _ _) (Below.refl _ _)
theorem vy (l:List (Int × Bool)) (v:Int × Bool) (A:Option Addr) (c:Nat) (w:World) (hc:Cs w A (l.flatMap VC)) (hn:l.length<=c/\c<=maxLen) :
  Calls Tryz.prog 161 #[.slice A l.length c,vi v] w fun e w'=>e=.returned (.int .i64 (IZ (iV v) l))/\Below w.heap.size w w':=by
 unfold maxLen at hn;obtain ⟨n4,p4⟩:=Na w (.cells #[.int .i64 v.1,.bool v.2] 92);have HC:=hid (hc.below n4);have HN4:=hid n4;have HP4:=hid p4;clear hc n4 p4;go_enter Tryz.func161,Tryz.ntmps161;(try simp only [Bm]);go_upto_region 1 with fail;generalize w.alloc (.cells #[.int .i64 v.1,.bool v.2] 92)=wa at *;obtain ⟨g4,hg4⟩:∃ g4,g4=w.heap.size:=⟨_,rfl⟩
 rw [<- hg4] at HP4;rw [<- hg4];clear hg4;go_wp2_with fail;go_loopw [4,5,8] (fun _ _ j wr=>∃ k:Nat,k<=l.length/\j=.int .i64 k/\(∀ i (h:i<l.length),i<k->iV v l[i]=false)/\Below wa.heap.size wa wr) (fun _ _ j _=>l.length - (intOf j).toNat)
 case atStart=>exact ⟨0,Nat.zero_le _,rfl,fun i _ h=>absurd h (Nat.not_lt_zero _),Below.refl _ _⟩
 case round =>
  obtain ⟨k,hk,rfl,hno,hbel⟩:=hrel;have HNO:=hid hno;have HB:=hid hbel;have HQ:=hid (show ∀ nq,Below wa.heap.size wa (wr.drewN nq) from fun nq=>below_drewN hbel nq);clear hno hbel;by_cases hlt:k<l.length
  ·have hlt1:(k:Int)<(l.length:Int):=by omega
   obtain ⟨g1,o1,hA1,hg1,hx1⟩:=eP vC (by decide) HC.out (by omega);subst hA1;have x0:=(HB.out.cell (p:=⟨g1,o1+k*2+0,none⟩) hg1).trans (hx1 k hlt 0 _ rfl);have x1:=(HB.out.cell (p:=⟨g1,o1+k*2+1,none⟩) hg1).trans (hx1 k hlt 1 _ rfl);have y0:=CX (rK HP4.out HB.out) 0 (.int .i64 v.1) rfl;have y1:=CX (rK HP4.out HB.out) 1 (.bool v.2) rfl;rw [Nat.add_zero] at x0
   have HYES:=hid (fun h=>It hlt HNO.out h)
   have HNEXT:=hid (show iV v l[k]=false->∀ i (h:i<l.length),i<k+1->iV v l[i]=false from fun h i hi hik=>by
    by_cases e:i=k
    ·subst e;exact h
    ·exact HNO.out i hi (by omega))
   clear hx1;obtain ⟨u,hu⟩:∃ u,u=l[k]:=⟨_,rfl⟩
   rw [<- hu] at x0 x1 HYES HNEXT;clear hu;by_cases h0:u.1=v.1
   ·rw [h0] at x0
    by_cases h1:u.2=v.2
    ·rw [h1] at x1
     have HR:=hid (HYES.out (ii.2 (Prod.ext h0 h1)));clear h0 h1 HYES HNEXT;generalize v.1=v0 at *;generalize v.2=v1 at *;go_wp2_with fail;go_quiet (fail)
     have HB0:=hid (HQ.out nq);go_wp2_with fail;go_ret;exact ⟨ri HR.out.symm,HN4.out.trans (HB0.out.mono HN4.out.size)⟩
    ·have HR:=hid (HNEXT.out (by unfold iV;rw [h0,beq_eq_false_iff_ne.2 h1];simp))
     have e1:(v.2 == u.2)=false:=beq_eq_false_iff_ne.2 (fun e=>h1 e.symm);clear h0 h1 HYES HNEXT;generalize v.1=v0 at *;generalize v.2=v1 at *;generalize u.2=u1 at *;go_wp2_with fail;go_quiet (fail)
     have HB0:=hid (HQ.out nq);go_wp2_with fail;go_roundw
     case rel=>exact ⟨k+1,by omega,by go_num,HR.out,HB0.out⟩
     case measure=>simp [intOf];omega
   ·have HR:=hid (HNEXT.out (by unfold iV;rw [beq_eq_false_iff_ne.2 h0];rfl))
    have e1:(v.1 == u.1)=false:=beq_eq_false_iff_ne.2 (fun e=>h0 e.symm);clear h0 HYES HNEXT;generalize v.1=v0 at *;generalize v.2=v1 at *;generalize u.1=u0 at *;generalize u.2=u1 at *;go_wp2_with fail;go_quiet (fail)
    have HB0:=hid (HQ.out nq);go_wp2_with fail;go_roundw
    case rel=>exact ⟨k+1,by omega,by go_num,HR.out,HB0.out⟩
    case measure=>simp [intOf];omega
  ·have hlt1:¬ (k:Int)<(l.length:Int):=by omega
   have HR:=hid (io (p:=iV v) (l:=l) fun j hj=>HNO.out j hj (by omega));go_wp2_with fail;go_ret;exact ⟨ri HR.out.symm,HN4.out.trans (HB.out.mono HN4.out.size)⟩
theorem vcontains_any (l:List (Int × Bool)) (v:Int × Bool) (A:Option Addr) (c:Nat) (w:World) (hc:Cs w A (l.flatMap VC)) (hn:l.length<=c/\c<=maxLen) :
  Calls Tryz.prog 115 #[.slice A l.length c,vi v] w fun e w'=>e=.returned (.bool (Hs l v))/\Below w.heap.size w w':=by
 obtain ⟨n4,p4⟩:=Na w (.cells #[.int .i64 v.1,.bool v.2] 92);have HC:=hid (vy l v A c _ (hc.below n4) hn);have HN4:=hid n4;have HP4:=hid p4;have HZ:=hid (show decide (0<=IZ (iV v) l)=Hs l v from Iy _ _);have hzb:=iZ (iV v) l;clear hc n4 p4;go_enter Tryz.func115,Tryz.ntmps115;(try simp only [Bm]);go_upto_region 1 with fail
 generalize w.alloc (.cells #[.int .i64 v.1,.bool v.2] 92)=wa at *;go_wp2_with (refine lr HP4.out Tryz.underlying92 ?_)
 refine HC.out.mono ?_;rintro e w1 ⟨rfl,hb1⟩;have HB1:=hid (bL HN4.out hb1);clear hb1 HC HP4;generalize IZ (iV v) l=z at *;go_wp2_with fail;go_ret;exact ⟨rb HZ.out,HB1.out⟩
theorem vA (l:List (Int × Bool)) (v:Int × Bool) (A:Option Addr) (c:Nat) (w:World) (hc:Cs w A (l.flatMap VC)) (hn:l.length<=c/\c<=maxLen) :
  Calls Tryz.prog 114 #[.slice A l.length c,vi v] w fun e w'=>e=.returned (.int .i64 (IZ (iV v) l))/\Below w.heap.size w w':=by
 obtain ⟨n4,p4⟩:=Na w (.cells #[.int .i64 v.1,.bool v.2] 92);have HC:=hid (vy l v A c _ (hc.below n4) hn);have HN4:=hid n4;have HP4:=hid p4;clear hc n4 p4;go_enter Tryz.func114,Tryz.ntmps114;(try simp only [Bm]);go_upto_region 1 with fail;generalize w.alloc (.cells #[.int .i64 v.1,.bool v.2] 92)=wa at *;go_wp2_with (refine lr HP4.out Tryz.underlying92 ?_)
 refine HC.out.mono ?_;rintro e w1 ⟨rfl,hb1⟩;have HB1:=hid (bL HN4.out hb1);clear hb1 HC HP4;go_wp2_with fail;go_ret;exact ⟨rfl,HB1.out⟩
theorem has1_any (v:Int × Bool) (o:Int) (g:Nat) (w:World) (hg:w.heap[g]? = some (.cells #[.int .i64 o] 3)) :
  Calls Tryz.prog 116 #[vi v,.pointer (some ⟨g,0,none⟩)] w fun e w'=>e=.returned (.bool (iO o v))/\Below w.heap.size w w':=by
 obtain ⟨n4,p4⟩:=Na w (.cells #[.int .i64 v.1,.bool v.2] 92);have HN4:=hid n4;have x0:=CX p4 0 (.int .i64 v.1) rfl;have y0:=CX (rK hg n4) 0 (.int .i64 o) rfl;clear hg n4 p4;go_enter Tryz.func116,Tryz.ntmps116;(try simp only [Bm]);go_upto_region 1 with fail;generalize w.alloc (.cells #[.int .i64 v.1,.bool v.2] 92)=wa at *;go_wp2_with fail;go_ret;exact ⟨rfl,HN4.out⟩
theorem before1_any (v:Int × Bool) (o:Int) (g:Nat) (w:World) (hg:w.heap[g]? = some (.cells #[.int .i64 o] 3)) :
  Calls Tryz.prog 117 #[vi v,.pointer (some ⟨g,0,none⟩)] w fun e w'=>e=.returned (.bool (iO o v))/\Below w.heap.size w w':=by
 obtain ⟨n4,p4⟩:=Na w (.cells #[.int .i64 v.1,.bool v.2] 92);have HN4:=hid n4;have x0:=CX p4 0 (.int .i64 v.1) rfl;have y0:=CX (rK hg n4) 0 (.int .i64 o) rfl;clear hg n4 p4;go_enter Tryz.func117,Tryz.ntmps117;(try simp only [Bm]);go_upto_region 1 with fail;generalize w.alloc (.cells #[.int .i64 v.1,.bool v.2] 92)=wa at *;go_wp2_with fail;go_ret;exact ⟨rfl,HN4.out⟩
theorem oL (m:IM):m.v.ords.length=m.ords.length:=by unfold IM.v;exact List.length_map ..
theorem badOrd_no {m:IM} {v:Int × Bool} (h0:0<=v.1) (h1:v.1<(m.ords.length:Int)):bO m.v v=false:=by
 unfold bO inOrds;rw [oL,decide_eq_true h0,decide_eq_true h1];rfl
theorem badOrd_neg {m:IM} {v:Int × Bool} (h0:v.1<0):bO m.v v=true:=by
 unfold bO inOrds;rw [decide_eq_false (by omega)];rfl
theorem badOrd_big {m:IM} {v:Int × Bool} (h1:¬ v.1<(m.ords.length:Int)):bO m.v v=true:=by
 unfold bO inOrds;rw [oL,decide_eq_false h1,Bool.and_false];rfl
theorem chk1_any (m:IM) (v:Int × Bool) (g:Nat) (w:World) (hl:m.ords.length<=3) (hg:w.heap[g]? = some (.cells (iQ m) 30)) :
  Calls Tryz.prog 57 #[vi v,.pointer (some ⟨g,0,none⟩)] w fun e w'=>e=.returned (.bool (bO m.v v))/\Below w.heap.size w w':=by
 obtain ⟨n4,p4⟩:=Na w (.cells #[.int .i64 v.1,.bool v.2] 92);have HN4:=hid n4;have x0:=CX p4 0 (.int .i64 v.1) rfl;have y3:=CX (rK hg n4) 3 (.slice m.oA m.ords.length m.oc) rfl;clear hg n4 p4;go_enter Tryz.func57,Tryz.ntmps57;(try simp only [Bm]);go_upto_region 1 with fail;generalize w.alloc (.cells #[.int .i64 v.1,.bool v.2] 92)=wa at *;by_cases h0:v.1<0
 ·have HR:=hid (badOrd_neg (m:=m) h0)
  go_wp2_with fail;go_ret;exact ⟨rb HR.out.symm,HN4.out⟩
 ·by_cases h1:v.1<(m.ords.length:Int)
  ·have h2:¬ (m.ords.length:Int)<=v.1:=by omega
   have HR:=hid (badOrd_no (m:=m) (v:=v) (by omega) h1);go_wp2_with fail;go_ret;exact ⟨rb HR.out.symm,HN4.out⟩
  ·have h2:(m.ords.length:Int)<=v.1:=by omega
   have HR:=hid (badOrd_big (m:=m) h1);go_wp2_with fail;go_ret;exact ⟨rb HR.out.symm,HN4.out⟩
theorem chk2_any (m:IM) (v:Int × Bool) (g:Nat) (w:World) (hl:m.ords.length<=3) (hc:Cs w m.oA (m.ords.flatMap OM.cells)) (hn:m.ords.length<=m.oc/\m.oc<=maxLen) (hv:0<=v.1/\v.1<(m.ords.length:Int)) (hg:w.heap[g]? = some (.cells (iQ m) 30)) :
  Calls Tryz.prog 58 #[vi v,.pointer (some ⟨g,0,none⟩)] w fun e w'=>e=.returned (.bool (oV m.v v))/\Below w.heap.size w w':=by
 unfold maxLen at hn;obtain ⟨v0,vd⟩:=v;obtain ⟨k,hk⟩:∃ k:Nat,v0=(k:Int):=⟨v0.toNat,by have:=hv.1;simp only at this;omega⟩
 subst hk;have hv2:=hv.2;simp only at hv2;have hlt:k<m.ords.length:=by omega
 have HR:=hid (show oV m.v ((k:Int),vd)=m.ords[k].o.off by unfold oV oO;rw [show OA m.v (k:Int)=some m.ords[k].o from On (m:=m) (i:=(k:Int)) (by omega) (by simpa using hlt)]);obtain ⟨n4,p4⟩:=Na w (.cells #[.int .i64 (k:Int),.bool vd] 92);have HN4:=hid n4;have x0:=CX p4 0 (.int .i64 (k:Int)) rfl;have y3:=CX (rK hg n4) 3 (.slice m.oA m.ords.length m.oc) rfl
 obtain ⟨g1,o1,hA1,hg1,hx1⟩:=eP OM.cells_len (by decide) (hc.below n4) (by omega);have x15:=hx1 k hlt 15 _ rfl;rw [hA1] at y3;generalize m.ords[k].o.off=b at *;clear hg n4 p4 hc hx1 hv;go_enter Tryz.func58,Tryz.ntmps58;(try simp only [Bm]);go_upto_region 1 with fail;generalize w.alloc (.cells #[.int .i64 (k:Int),.bool vd] 92)=wa at *;go_wp2_with fail;go_ret
 exact ⟨rb HR.out.symm,HN4.out⟩
theorem has1_idx (l:List (Int × Bool)) (A:Option Addr) (c:Nat) (o:Int) (g:Nat) (w:World) (hc:Cs w A (l.flatMap VC)) (hn:l.length<=c/\c<=maxLen) (hg:w.heap[g]? = some (.cells #[.int .i64 o] 3)) :
  Calls Tryz.prog 113 #[.slice A l.length c,.func (Fn.func 116) #[] #[.pointer (some ⟨g,0,none⟩)]] w fun e w'=>e=.returned (.int .i64 (IZ (iO o) l))/\Below w.heap.size w w':=by
 unfold maxLen at hn;have HC:=hid hc;have HF:=hid (show ∀ v ∈ l,∀ w',Below w.heap.size w w'->Calls Tryz.prog 116 #[vi v,.pointer (some ⟨g,0,none⟩)] w' (fun e w2=>e=.returned (.bool (iO o v))/\Below w'.heap.size w' w2) from fun v _ w2 hb=>has1_any v o g w2 (rK hg hb));clear hc hg;go_enter Tryz.func113,Tryz.ntmps113;go_wp2_with fail
 go_loopw [4,5,8] (fun _ _ j wr=>∃ k:Nat,k<=l.length/\j=.int .i64 k/\(∀ i (h:i<l.length),i<k->iO o l[i]=false)/\Below w.heap.size w wr) (fun _ _ j _=>l.length - (intOf j).toNat)
 case atStart=>exact ⟨0,Nat.zero_le _,rfl,fun i _ h=>absurd h (Nat.not_lt_zero _),Below.refl _ _⟩
 case round =>
  obtain ⟨k,hk,rfl,hno,hbel⟩:=hrel;have HB:=hid hbel;have HNO:=hid hno;clear hbel hno;by_cases hlt:k<l.length
  ·have hlt1:(k:Int)<(l.length:Int):=by omega
   obtain ⟨g1,o1,hA1,hg1,hx1⟩:=eP vC (by decide) HC.out (by omega);subst hA1;have HX:=hid (fun j u h=>(HB.out.cell (p:=⟨g1,o1+k*2+j,none⟩) hg1).trans (hx1 k hlt j u h));have HFK:=hid (HF.out _ (List.getElem_mem hlt) wr HB.out);have HYES:=hid (fun h=>It (p:=iO o) hlt HNO.out h)
   have HNEXT:=hid (show iO o l[k]=false->∀ i (h:i<l.length),i<k+1->iO o l[i]=false from fun h i hi hik=>by
    by_cases e:i=k
    ·subst e;exact h
    ·exact HNO.out i hi (by omega))
   obtain ⟨v,hv⟩:∃ v,v=l[k]:=⟨_,rfl⟩
   rw [<- hv] at HX HFK HYES HNEXT;clear hx1 hv;go_wp2_with (refine wL rfl 92 _ rfl g1 (o1+k*2) rfl (VC v) _ HX.out Tryz.underlying92 rfl (by kernel_rfl) ?_)
   refine HFK.out.mono ?_;rintro e w3 ⟨rfl,hb3⟩;have HB3:=hid (bL HB.out hb3);clear hb3 HFK
   cases hp:iO o v with
   |true =>
    have HR:=hid (HYES.out hp);clear hp HYES HNEXT;go_wp2_with fail;go_ret;exact ⟨ri HR.out.symm,HB3.out⟩
   |false =>
    have HR:=hid (HNEXT.out hp);clear hp HYES HNEXT;go_wp2_with fail;go_roundw
    case rel=>exact ⟨k+1,by omega,by go_num,HR.out,HB3.out⟩
    case measure=>simp [intOf];omega
  ·have hlt1:¬ (k:Int)<(l.length:Int):=by omega
   have HR:=hid (io (p:=iO o) (l:=l) fun j hj=>HNO.out j hj (by omega));go_wp2_with fail;go_ret;exact ⟨ri HR.out.symm,HB.out⟩
theorem has1_cont (l:List (Int × Bool)) (A:Option Addr) (c:Nat) (o:Int) (g:Nat) (w:World) (hc:Cs w A (l.flatMap VC)) (hn:l.length<=c/\c<=maxLen) (hg:w.heap[g]? = some (.cells #[.int .i64 o] 3)) :
  Calls Tryz.prog 56 #[.slice A l.length c,.func (Fn.func 116) #[] #[.pointer (some ⟨g,0,none⟩)]] w fun e w'=>e=.returned (.bool (l.any (iO o)))/\Below w.heap.size w w':=by
 have H:=hid (has1_idx l A c o g w hc hn hg);have HZ:=hid (Iy (iO o) l);have hzb:=iZ (iO o) l;clear hc hn hg;go_enter Tryz.func56,Tryz.ntmps56;go_wp2_with fail;refine H.out.mono ?_;rintro e w1 ⟨rfl,hb⟩;have HB:=hid hb;clear hb H;generalize IZ (iO o) l=z at *;go_wp2_with fail;go_ret;exact ⟨rb HZ.out,HB.out⟩
theorem before1_idx (l:List (Int × Bool)) (A:Option Addr) (c:Nat) (o:Int) (g:Nat) (w:World) (hc:Cs w A (l.flatMap VC)) (hn:l.length<=c/\c<=maxLen) (hg:w.heap[g]? = some (.cells #[.int .i64 o] 3)) :
  Calls Tryz.prog 113 #[.slice A l.length c,.func (Fn.func 117) #[] #[.pointer (some ⟨g,0,none⟩)]] w fun e w'=>e=.returned (.int .i64 (IZ (iO o) l))/\Below w.heap.size w w':=by
 unfold maxLen at hn;have HC:=hid hc;have HF:=hid (show ∀ v ∈ l,∀ w',Below w.heap.size w w'->Calls Tryz.prog 117 #[vi v,.pointer (some ⟨g,0,none⟩)] w' (fun e w2=>e=.returned (.bool (iO o v))/\Below w'.heap.size w' w2) from fun v _ w2 hb=>before1_any v o g w2 (rK hg hb));clear hc hg;go_enter Tryz.func113,Tryz.ntmps113;go_wp2_with fail
 go_loopw [4,5,8] (fun _ _ j wr=>∃ k:Nat,k<=l.length/\j=.int .i64 k/\(∀ i (h:i<l.length),i<k->iO o l[i]=false)/\Below w.heap.size w wr) (fun _ _ j _=>l.length - (intOf j).toNat)
 case atStart=>exact ⟨0,Nat.zero_le _,rfl,fun i _ h=>absurd h (Nat.not_lt_zero _),Below.refl _ _⟩
 case round =>
  obtain ⟨k,hk,rfl,hno,hbel⟩:=hrel;have HB:=hid hbel;have HNO:=hid hno;clear hbel hno;by_cases hlt:k<l.length
  ·have hlt1:(k:Int)<(l.length:Int):=by omega
   obtain ⟨g1,o1,hA1,hg1,hx1⟩:=eP vC (by decide) HC.out (by omega);subst hA1;have HX:=hid (fun j u h=>(HB.out.cell (p:=⟨g1,o1+k*2+j,none⟩) hg1).trans (hx1 k hlt j u h));have HFK:=hid (HF.out _ (List.getElem_mem hlt) wr HB.out);have HYES:=hid (fun h=>It (p:=iO o) hlt HNO.out h)
   have HNEXT:=hid (show iO o l[k]=false->∀ i (h:i<l.length),i<k+1->iO o l[i]=false from fun h i hi hik=>by
    by_cases e:i=k
    ·subst e;exact h
    ·exact HNO.out i hi (by omega))
   obtain ⟨v,hv⟩:∃ v,v=l[k]:=⟨_,rfl⟩
   rw [<- hv] at HX HFK HYES HNEXT;clear hx1 hv;go_wp2_with (refine wL rfl 92 _ rfl g1 (o1+k*2) rfl (VC v) _ HX.out Tryz.underlying92 rfl (by kernel_rfl) ?_)
   refine HFK.out.mono ?_;rintro e w3 ⟨rfl,hb3⟩;have HB3:=hid (bL HB.out hb3);clear hb3 HFK
   cases hp:iO o v with
   |true =>
    have HR:=hid (HYES.out hp);clear hp HYES HNEXT;go_wp2_with fail;go_ret;exact ⟨ri HR.out.symm,HB3.out⟩
   |false =>
    have HR:=hid (HNEXT.out hp);clear hp HYES HNEXT;go_wp2_with fail;go_roundw
    case rel=>exact ⟨k+1,by omega,by go_num,HR.out,HB3.out⟩
    case measure=>simp [intOf];omega
  ·have hlt1:¬ (k:Int)<(l.length:Int):=by omega
   have HR:=hid (io (p:=iO o) (l:=l) fun j hj=>HNO.out j hj (by omega));go_wp2_with fail;go_ret;exact ⟨ri HR.out.symm,HB.out⟩
theorem chk1_idx (l:List (Int × Bool)) (A:Option Addr) (c:Nat) (m:IM) (g:Nat) (w:World) (hc:Cs w A (l.flatMap VC)) (hn:l.length<=c/\c<=maxLen) (hl:m.ords.length<=3) (hg:w.heap[g]? = some (.cells (iQ m) 30)) :
  Calls Tryz.prog 113 #[.slice A l.length c,.func (Fn.func 57) #[] #[.pointer (some ⟨g,0,none⟩)]] w fun e w'=>e=.returned (.int .i64 (IZ (bO m.v) l))/\Below w.heap.size w w':=by
 unfold maxLen at hn;have HC:=hid hc;have HF:=hid (show ∀ v ∈ l,∀ w',Below w.heap.size w w'->Calls Tryz.prog 57 #[vi v,.pointer (some ⟨g,0,none⟩)] w' (fun e w2=>e=.returned (.bool (bO m.v v))/\Below w'.heap.size w' w2) from fun v _ w2 hb=>chk1_any m v g w2 hl (rK hg hb));clear hc hg;go_enter Tryz.func113,Tryz.ntmps113;go_wp2_with fail
 go_loopw [4,5,8] (fun _ _ j wr=>∃ k:Nat,k<=l.length/\j=.int .i64 k/\(∀ i (h:i<l.length),i<k->bO m.v l[i]=false)/\Below w.heap.size w wr) (fun _ _ j _=>l.length - (intOf j).toNat)
 case atStart=>exact ⟨0,Nat.zero_le _,rfl,fun i _ h=>absurd h (Nat.not_lt_zero _),Below.refl _ _⟩
 case round =>
  obtain ⟨k,hk,rfl,hno,hbel⟩:=hrel;have HB:=hid hbel;have HNO:=hid hno;clear hbel hno;by_cases hlt:k<l.length
  ·have hlt1:(k:Int)<(l.length:Int):=by omega
   obtain ⟨g1,o1,hA1,hg1,hx1⟩:=eP vC (by decide) HC.out (by omega);subst hA1;have HX:=hid (fun j u h=>(HB.out.cell (p:=⟨g1,o1+k*2+j,none⟩) hg1).trans (hx1 k hlt j u h));have HFK:=hid (HF.out _ (List.getElem_mem hlt) wr HB.out);have HYES:=hid (fun h=>It (p:=bO m.v) hlt HNO.out h)
   have HNEXT:=hid (show bO m.v l[k]=false->∀ i (h:i<l.length),i<k+1->bO m.v l[i]=false from fun h i hi hik=>by
    by_cases e:i=k
    ·subst e;exact h
    ·exact HNO.out i hi (by omega))
   obtain ⟨v,hv⟩:∃ v,v=l[k]:=⟨_,rfl⟩
   rw [<- hv] at HX HFK HYES HNEXT;clear hx1 hv;go_wp2_with (refine wL rfl 92 _ rfl g1 (o1+k*2) rfl (VC v) _ HX.out Tryz.underlying92 rfl (by kernel_rfl) ?_)
   refine HFK.out.mono ?_;rintro e w3 ⟨rfl,hb3⟩;have HB3:=hid (bL HB.out hb3);clear hb3 HFK
   cases hp:bO m.v v with
   |true =>
    have HR:=hid (HYES.out hp);clear hp HYES HNEXT;go_wp2_with fail;go_ret;exact ⟨ri HR.out.symm,HB3.out⟩
   |false =>
    have HR:=hid (HNEXT.out hp);clear hp HYES HNEXT;go_wp2_with fail;go_roundw
    case rel=>exact ⟨k+1,by omega,by go_num,HR.out,HB3.out⟩
    case measure=>simp [intOf];omega
  ·have hlt1:¬ (k:Int)<(l.length:Int):=by omega
   have HR:=hid (io (p:=bO m.v) (l:=l) fun j hj=>HNO.out j hj (by omega));go_wp2_with fail;go_ret;exact ⟨ri HR.out.symm,HB.out⟩
theorem chk1_cont (l:List (Int × Bool)) (A:Option Addr) (c:Nat) (m:IM) (g:Nat) (w:World) (hc:Cs w A (l.flatMap VC)) (hn:l.length<=c/\c<=maxLen) (hl:m.ords.length<=3) (hg:w.heap[g]? = some (.cells (iQ m) 30)) :
  Calls Tryz.prog 56 #[.slice A l.length c,.func (Fn.func 57) #[] #[.pointer (some ⟨g,0,none⟩)]] w fun e w'=>e=.returned (.bool (l.any (bO m.v)))/\Below w.heap.size w w':=by
 have H:=hid (chk1_idx l A c m g w hc hn hl hg);have HZ:=hid (Iy (bO m.v) l);have hzb:=iZ (bO m.v) l;clear hc hn hg;go_enter Tryz.func56,Tryz.ntmps56;go_wp2_with fail;refine H.out.mono ?_;rintro e w1 ⟨rfl,hb⟩;have HB:=hid hb;clear hb H;generalize IZ (bO m.v) l=z at *;go_wp2_with fail;go_ret;exact ⟨rb HZ.out,HB.out⟩
theorem chk2_idx (l:List (Int × Bool)) (A:Option Addr) (c:Nat) (m:IM) (g:Nat) (w:World) (hc:Cs w A (l.flatMap VC)) (hn:l.length<=c/\c<=maxLen) (hl:m.ords.length<=3) (hm:Cs w m.oA (m.ords.flatMap OM.cells)) (hmn:m.ords.length<=m.oc/\m.oc<=maxLen) (hv:∀ v ∈ l,0<=v.1/\v.1<(m.ords.length:Int)) (hg:w.heap[g]? = some (.cells (iQ m) 30)) :
  Calls Tryz.prog 113 #[.slice A l.length c,.func (Fn.func 58) #[] #[.pointer (some ⟨g,0,none⟩)]] w fun e w'=>e=.returned (.int .i64 (IZ (oV m.v) l))/\Below w.heap.size w w':=by
 unfold maxLen at hn;have HC:=hid hc;have HF:=hid (show ∀ v ∈ l,∀ w',Below w.heap.size w w'->Calls Tryz.prog 58 #[vi v,.pointer (some ⟨g,0,none⟩)] w' (fun e w2=>e=.returned (.bool (oV m.v v))/\Below w'.heap.size w' w2) from fun v hvm w2 hb=>chk2_any m v g w2 hl (hm.below hb) hmn (hv v hvm) (rK hg hb));clear hc hg hm hmn hv;go_enter Tryz.func113,Tryz.ntmps113;go_wp2_with fail
 go_loopw [4,5,8] (fun _ _ j wr=>∃ k:Nat,k<=l.length/\j=.int .i64 k/\(∀ i (h:i<l.length),i<k->oV m.v l[i]=false)/\Below w.heap.size w wr) (fun _ _ j _=>l.length - (intOf j).toNat)
 case atStart=>exact ⟨0,Nat.zero_le _,rfl,fun i _ h=>absurd h (Nat.not_lt_zero _),Below.refl _ _⟩
 case round =>
  obtain ⟨k,hk,rfl,hno,hbel⟩:=hrel;have HB:=hid hbel;have HNO:=hid hno;clear hbel hno;by_cases hlt:k<l.length
  ·have hlt1:(k:Int)<(l.length:Int):=by omega
   obtain ⟨g1,o1,hA1,hg1,hx1⟩:=eP vC (by decide) HC.out (by omega);subst hA1;have HX:=hid (fun j u h=>(HB.out.cell (p:=⟨g1,o1+k*2+j,none⟩) hg1).trans (hx1 k hlt j u h));have HFK:=hid (HF.out _ (List.getElem_mem hlt) wr HB.out);have HYES:=hid (fun h=>It (p:=oV m.v) hlt HNO.out h)
   have HNEXT:=hid (show oV m.v l[k]=false->∀ i (h:i<l.length),i<k+1->oV m.v l[i]=false from fun h i hi hik=>by
    by_cases e:i=k
    ·subst e;exact h
    ·exact HNO.out i hi (by omega))
   obtain ⟨v,hv⟩:∃ v,v=l[k]:=⟨_,rfl⟩
   rw [<- hv] at HX HFK HYES HNEXT;clear hx1 hv;go_wp2_with (refine wL rfl 92 _ rfl g1 (o1+k*2) rfl (VC v) _ HX.out Tryz.underlying92 rfl (by kernel_rfl) ?_)
   refine HFK.out.mono ?_;rintro e w3 ⟨rfl,hb3⟩;have HB3:=hid (bL HB.out hb3);clear hb3 HFK
   cases hp:oV m.v v with
   |true =>
    have HR:=hid (HYES.out hp);clear hp HYES HNEXT;go_wp2_with fail;go_ret;exact ⟨ri HR.out.symm,HB3.out⟩
   |false =>
    have HR:=hid (HNEXT.out hp);clear hp HYES HNEXT;go_wp2_with fail;go_roundw
    case rel=>exact ⟨k+1,by omega,by go_num,HR.out,HB3.out⟩
    case measure=>simp [intOf];omega
  ·have hlt1:¬ (k:Int)<(l.length:Int):=by omega
   have HR:=hid (io (p:=oV m.v) (l:=l) fun j hj=>HNO.out j hj (by omega));go_wp2_with fail;go_ret;exact ⟨ri HR.out.symm,HB.out⟩
theorem chk2_cont (l:List (Int × Bool)) (A:Option Addr) (c:Nat) (m:IM) (g:Nat) (w:World) (hc:Cs w A (l.flatMap VC)) (hn:l.length<=c/\c<=maxLen) (hl:m.ords.length<=3) (hm:Cs w m.oA (m.ords.flatMap OM.cells)) (hmn:m.ords.length<=m.oc/\m.oc<=maxLen) (hv:∀ v ∈ l,0<=v.1/\v.1<(m.ords.length:Int)) (hg:w.heap[g]? = some (.cells (iQ m) 30)) :
  Calls Tryz.prog 56 #[.slice A l.length c,.func (Fn.func 58) #[] #[.pointer (some ⟨g,0,none⟩)]] w fun e w'=>e=.returned (.bool (l.any (oV m.v)))/\Below w.heap.size w w':=by
 have H:=hid (chk2_idx l A c m g w hc hn hl hm hmn hv hg);have HZ:=hid (Iy (oV m.v) l);have hzb:=iZ (oV m.v) l;clear hc hn hg hm hmn hv;go_enter Tryz.func56,Tryz.ntmps56;go_wp2_with fail;refine H.out.mono ?_;rintro e w1 ⟨rfl,hb⟩;have HB:=hid hb;clear hb H;generalize IZ (oV m.v) l=z at *;go_wp2_with fail;go_ret;exact ⟨rb HZ.out,HB.out⟩
theorem Cs.pre {w:World} {A:Option Addr} {xs ys:List Value} (h:Cs w A (xs ++ ys)):Cs w A xs:=fun h0=>by
 obtain ⟨b,off,e,hb,hx⟩:=h (by rw [List.length_append];omega);exact ⟨b,off,e,hb,fun j v hv=>hx j v (by rw [List.getElem?_append_left (List.getElem?_eq_some_iff.1 hv).1];exact hv)⟩
theorem vis_take {w:World} {A:Option Addr} {l:List (Int × Bool)} (h:Cs w A (l.flatMap VC)) (k:Nat):Cs w A ((l.take k).flatMap VC):=by
 have e:l.flatMap VC=(l.take k).flatMap VC ++ (l.drop k).flatMap VC:=by rw [<- List.flatMap_append,List.take_append_drop]
 rw [e] at h;exact h.pre
theorem vis_drop {w:World} {b o:Nat} {l:List (Int × Bool)} (hb:b<w.heap.size) (h:∀ i (hi:i<l.length) j u,(VC l[i])[j]? = some u->w.cell? ⟨b,o+i*2+j,none⟩=some u) (k:Nat):Cs w (some ⟨b,o+k*2,none⟩) ((l.drop k).flatMap VC):=fun h0=>by
 refine ⟨b,o+k*2,rfl,hb,fun j v hv=>?_⟩;have hl:=fl VC vC (l.drop k);have hj:=(List.getElem?_eq_some_iff.1 hv).1;rw [hl,List.length_drop] at hj;have hd:j / 2<(l.drop k).length:=by rw [List.length_drop];omega
 have e:=flat_get VC vC (l.drop k) (j / 2) hd (j % 2) (Nat.mod_lt _ (by decide));have hi:k+j / 2<l.length:=by rw [List.length_drop] at hd;omega
 have e':j / 2*2+j % 2=j:=by omega
 rw [e',hv,List.getElem_drop] at e;have:=h (k+j / 2) hi (j % 2) v e.symm;rw [<- this];congr 2
 omega
theorem shas_any (l:List (Int × Bool)) (o:Int) (A:Option Addr) (c:Nat) (w:World) (hc:Cs w A (l.flatMap VC)) (hn:l.length<=c/\c<=maxLen) :
  Calls Tryz.prog 61 #[.slice A l.length c,.int .i64 o] w fun e w'=>e=.returned (.bool (Ai l o))/\Below w.heap.size w w':=by
 obtain ⟨n4,p4⟩:=Na w (.cells #[.int .i64 o] 3);have HC:=hid (has1_cont l A c o w.heap.size _ (hc.below n4) hn p4);have HN4:=hid n4;clear hc n4 p4;go_enter Tryz.func61,Tryz.ntmps61;(try simp only [Bm]);go_upto_region 1 with fail;generalize w.alloc (.cells #[.int .i64 o] 3)=wa at *;go_wp2_with fail;refine HC.out.mono ?_;rintro e w1 ⟨rfl,hb1⟩;have HB1:=hid (bL HN4.out hb1)
 clear hb1 HC;go_wp2_with fail;go_ret;exact ⟨rfl,HB1.out⟩
theorem sbefore_any (l:List (Int × Bool)) (a b:Int) (A:Option Addr) (c:Nat) (w:World) (hc:Cs w A (l.flatMap VC)) (hn:l.length<=c/\c<=maxLen) :
  Calls Tryz.prog 62 #[.slice A l.length c,.int .i64 a,.int .i64 b] w fun e w'=>e=.returned (.bool (bV l a b))/\Below w.heap.size w w':=by
 obtain ⟨n4,p4⟩:=Na w (.cells #[.int .i64 b] 3);have HC0:=hid (hc.below n4);have HC:=hid (before1_idx l A c b w.heap.size _ (hc.below n4) hn p4);have HN4:=hid n4;have HN:=hid hn;unfold maxLen at hn;have HV:=hid (show bV l a b=if IZ (iO b) l<0 then true else Ai l a && !Ai (l.drop (IZ (iO b) l).toNat) a from rfl);have hzb:=iZ (iO b) l
 clear hc n4 p4;go_enter Tryz.func62,Tryz.ntmps62;(try simp only [Bm]);go_upto_region 1 with fail;generalize w.alloc (.cells #[.int .i64 b] 3)=wa at *;go_wp2_with fail;refine HC.out.mono ?_;rintro e w1 ⟨rfl,hb1⟩;have HB1:=hid (bL HN4.out hb1);have HC1:=hid (HC0.out.below hb1);clear hb1 HC HC0;generalize IZ (iO b) l=z at *;by_cases hz:z<0
 ·have HR:=hid (show bV l a b=true by rw [HV.out,if_pos hz])
  go_wp2_with fail;go_ret;exact ⟨rb HR.out.symm,HB1.out⟩
 ·obtain ⟨k,rfl⟩:∃ k:Nat,z=(k:Int):=⟨z.toNat,by omega⟩
  have hk:k<l.length:=by omega
  have hkl:(k:Int)<=(l.length:Int):=by omega
  have HR:=hid (show bV l a b=(Ai l a && !Ai (l.drop k) a) by rw [HV.out,if_neg hz];rfl);go_wp2_with fail;refine (shas_any l a A c w1 HC1.out HN.out).mono ?_;rintro e w2 ⟨rfl,hb2⟩;have HB2:=hid (bL HB1.out hb2);obtain ⟨g1,o1,hA1,hg1,hx1⟩:=eP vC (by decide) (HC1.out.below hb2) (by omega)
  have HD:=hid (shas_any (l.drop k) a (some ⟨g1,o1+k*2,none⟩) (c - k) w2 (vis_drop hg1 hx1 k) ⟨by rw [List.length_drop];omega,by unfold maxLen;omega⟩);rw [List.length_drop] at HD;subst hA1;clear hb2 hx1 HC1;generalize Ai l a=b1 at *;generalize Ai (l.drop k) a=b2 at *
  cases b1 with
  |false =>
   have HR2:=hid (show bV l a b=false from HR.out);go_wp2_with fail;go_ret;exact ⟨rb HR2.out.symm,HB2.out⟩
  |true =>
   have HR2:=hid (show bV l a b=!b2 by rw [HR.out];rfl);clear HR;go_wp2_with fail;refine HD.out.mono ?_;rintro e w3 ⟨rfl,hb3⟩;have HB3:=hid (bL HB2.out hb3);clear hb3 HD;go_wp2_with fail;go_ret;exact ⟨rb HR2.out.symm,HB3.out⟩
theorem twice_any (l:List (Int × Bool)) (A:Option Addr) (c:Nat) (w:World) (hc:Cs w A (l.flatMap VC)) (hn:l.length<=c/\c<=maxLen) :
  Calls Tryz.prog 59 #[.slice A l.length c] w fun e w'=>e=.returned (.bool (tW l))/\Below w.heap.size w w':=by
 have HC:=hid hc;have HN:=hid hn;unfold maxLen at hn;clear hc;go_enter Tryz.func59,Tryz.ntmps59;(try simp only [Bm]);go_wp2_with fail;go_loopw [2,3,7] (fun _ _ j wr=>∃ k:Nat,k<=l.length/\j=.int .i64 k/\(∀ i (h:i<l.length),i<k->Hs (l.take i) l[i]=false)/\Below w.heap.size w wr) (fun _ _ j _=>l.length - (intOf j).toNat)
 case atStart=>exact ⟨0,Nat.zero_le _,rfl,fun i _ h=>absurd h (Nat.not_lt_zero _),Below.refl _ _⟩
 case round =>
  obtain ⟨k,hk,rfl,hno,hbel⟩:=hrel;have HB:=hid hbel;have HNO:=hid hno;clear hbel hno;by_cases hlt:k<l.length
  ·have hlt1:(k:Int)<(l.length:Int):=by omega
   obtain ⟨g1,o1,hA1,hg1,hx1⟩:=eP vC (by decide) HC.out (by omega);have HCA:=hid (vis_take HC.out k);subst hA1;have x0:=(HB.out.cell (p:=⟨g1,o1+k*2+0,none⟩) hg1).trans (hx1 k hlt 0 _ rfl);have x1:=(HB.out.cell (p:=⟨g1,o1+k*2+1,none⟩) hg1).trans (hx1 k hlt 1 _ rfl);rw [Nat.add_zero] at x0;have HZ:=hid (Iy (iV l[k]) (l.take k));have HYES:=hid (fun h=>twiceV_yes hlt h)
   have HNEXT:=hid (show Hs (l.take k) l[k]=false->∀ i (h:i<l.length),i<k+1->Hs (l.take i) l[i]=false from fun h i hi hik=>by
    by_cases e:i=k
    ·subst e;exact h
    ·exact HNO.out i hi (by omega))
   have hlk:(l.take k).length=k:=by rw [List.length_take];omega
   have hkc:k<=c:=by omega
   clear hx1;obtain ⟨u,hu⟩:∃ u,u=l[k]:=⟨_,rfl⟩
   rw [<- hu] at x0 x1 HYES HNEXT HZ;clear hu;obtain ⟨n5,p5⟩:=Na wr (.cells #[.int .i64 u.1,.bool u.2] 92);go_upto_region 4 with fail;generalize hw5:wr.alloc (.cells #[.int .i64 u.1,.bool u.2] 92)=w5 at *;clear hw5;have HB5:=hid (bL HB.out n5);obtain ⟨g5,hg5⟩:∃ g5,g5=wr.heap.size:=⟨_,rfl⟩
   rw [<- hg5] at p5;rw [<- hg5];have hd:Below w5.heap.size w5 w5.drew:=(Below.refl _ w5).drew;have HP5d:=hid (rK p5 hd);have HBd:=hid (bL HB5.out hd);have hpl:=vA (l.take k) u (some ⟨g1,o1,none⟩) c w5.drew (HCA.out.below HBd.out) ⟨by rw [hlk];exact hkc,HN.out.2⟩;rw [hlk] at hpl;have HPL:=hid hpl;clear n5 p5 hg5 hd hpl x0 x1 hlk HB5
   obtain ⟨z,hz⟩:∃ z,z=IZ (iV u) (l.take k):=⟨_,rfl⟩
   rw [<- hz] at HPL HZ;clear hz;by_cases hz0:0<=z
   ·have HR:=hid (HYES.out (by show (l.take k).any (iV u)=true;rw [<- HZ.out];exact decide_eq_true hz0))
    clear HYES HNEXT HZ;have hS0:(fun w'=>w'.heap[g5]? = some (.cells #[.int .i64 u.1,.bool u.2] 92)) w5.drew:=HP5d.out;refine wp_region_held_drew (S:=fun w'=>w'.heap[g5]? = some (.cells #[.int .i64 u.1,.bool u.2] 92)) (by kernel_rfl) hS0 (fun _=>?_);refine td 0 ?_;refine td 1 ?_;refine td 2 ?_;refine tkr 3 Tryz.underlying92 (fun w hSw=>hSw) ?_;(try simp only [Act.put,P1,pu,P3])
    refine one 4 (fun K hK=>?_);go_simp;refine HPL.out.mono ?_;rintro e w6 ⟨rfl,hb6⟩;have HB6:=hid hb6;refine hK.out _ _ (rK HP5d.out hb6) (fun _=>?_);clear hK K;refine td 5 ?_;(try simp only [Act.put,P1,pu,P3]);refine wpAnyH_done (by kernel_rfl) ?_ _;go_wp2_with fail;go_ret;exact ⟨rb HR.out.symm,bL HBd.out HB6.out⟩
   ·have HR:=hid (HNEXT.out (by show (l.take k).any (iV u)=false;rw [<- HZ.out];exact decide_eq_false hz0))
    clear HYES HNEXT HZ;have hS0:(fun w'=>w'.heap[g5]? = some (.cells #[.int .i64 u.1,.bool u.2] 92)) w5.drew:=HP5d.out;refine wp_region_held_drew (S:=fun w'=>w'.heap[g5]? = some (.cells #[.int .i64 u.1,.bool u.2] 92)) (by kernel_rfl) hS0 (fun _=>?_);refine td 0 ?_;refine td 1 ?_;refine td 2 ?_;refine tkr 3 Tryz.underlying92 (fun w hSw=>hSw) ?_;(try simp only [Act.put,P1,pu,P3])
    refine one 4 (fun K hK=>?_);go_simp;refine HPL.out.mono ?_;rintro e w6 ⟨rfl,hb6⟩;have HB6:=hid hb6;refine hK.out _ _ (rK HP5d.out hb6) (fun _=>?_);clear hK K;refine td 5 ?_;(try simp only [Act.put,P1,pu,P3]);refine wpAnyH_done (by kernel_rfl) ?_ _;go_wp2_with fail;go_roundw
    case rel=>exact ⟨k+1,by omega,by go_num,HR.out,bL HBd.out HB6.out⟩
    case measure=>simp [intOf];omega
  ·have hlt1:¬ (k:Int)<(l.length:Int):=by omega
   have HR:=hid (twiceV_no (l:=l) fun i hi=>HNO.out i hi (by omega));go_wp2_with fail;go_ret;exact ⟨rb HR.out.symm,HB.out⟩
theorem vf (x:IV) (i:Int):(vO x i).length<=2:=by
 unfold vO
 cases OA x i with
 |none=>simp
 |some o =>
  simp only [List.length_append];split <;> split <;> simp
theorem paired_any (m:IM) (l:List (Int × Bool)) (A:Option Addr) (c:Nat) (w:World) (hm:Cs w m.oA (m.ords.flatMap OM.cells)) (hmn:m.ords.length<=m.oc/\m.oc<=maxLen) (hml:m.ords.length<=3) (hc:Cs w A (l.flatMap VC)) (hn:l.length<=c/\c<=maxLen) :
  Calls Tryz.prog 60 #[iA m,.slice A l.length c] w fun e w'=>e=.returned (.bool (pV m.v l))/\Below w.heap.size w w':=by
 have HC:=hid hc;have HN:=hid hn;unfold maxLen at hn;obtain ⟨n4,p4⟩:=Na w (.cells (iQ m) 30);have HN4:=hid n4;have HP4:=hid p4;have HVI:=hid (fun (i:Int) (w':World) (hb:Below w.heap.size w w')=>Oa m i w' (hm.below hb) hmn hml);clear hc hm n4 p4;go_enter Tryz.func60,Tryz.ntmps60;(try simp only [Bm]);go_upto_region 1 with fail;rw [iq]
 generalize w.alloc (.cells (iQ m) 30)=wa at *;obtain ⟨g4,hg4⟩:∃ g4,g4=w.heap.size:=⟨_,rfl⟩
 rw [<- hg4] at HP4;rw [<- hg4];clear hg4;go_wp2_with fail;go_loopw [4,14] (fun _ j wr=>∃ k:Nat,k<=l.length/\j=.int .i64 k/\(∀ i (h:i<l.length),i<k->(Hs (vO m.v l[i].1) l[i] && aV l (-1) (vO m.v l[i].1))=true)/\wr.heap[g4]? = some (.cells (iQ m) 30)/\Below w.heap.size w wr) (fun _ j _=>l.length - (intOf j).toNat)
 case atStart=>exact ⟨0,Nat.zero_le _,rfl,fun i _ h=>absurd h (Nat.not_lt_zero _),HP4.out,HN4.out⟩
 case round =>
  clear HP4 HN4;obtain ⟨k,hk,rfl,hno,hr4,hbel⟩:=hrel;have HB:=hid hbel;have HNO:=hid hno;have HR4:=hid hr4;clear hbel hno hr4;by_cases hlt:k<l.length
  ·have hlt1:(k:Int)<(l.length:Int):=by omega
   obtain ⟨g1,o1,hA1,hg1,hx1⟩:=eP vC (by decide) HC.out (by omega);have x0:=(HB.out.cell (p:=⟨g1,o1+k*2+0,none⟩) hg1).trans (hx1 k hlt 0 _ rfl);have x1:=(HB.out.cell (p:=⟨g1,o1+k*2+1,none⟩) hg1).trans (hx1 k hlt 1 _ rfl);rw [Nat.add_zero] at x0;have HBAD:=hid (fun h=>paired_no (x:=m.v) hlt h)
   have HNEXT:=hid (show (Hs (vO m.v l[k].1) l[k] && aV l (-1) (vO m.v l[k].1))=true->∀ i (h:i<l.length),i<k+1->(Hs (vO m.v l[i].1) l[i] && aV l (-1) (vO m.v l[i].1))=true from fun h i hi hik=>by
    by_cases e:i=k
    ·subst e;exact h
    ·exact HNO.out i hi (by omega))
   have HA1:=hid hA1;rw [hA1];clear hx1 hA1;obtain ⟨u,hu⟩:∃ u,u=l[k]:=⟨_,rfl⟩
   rw [<- hu] at x0 x1 HBAD HNEXT;clear hu;obtain ⟨n5,p5⟩:=Na wr (.cells #[.int .i64 u.1,.bool u.2] 92);go_upto_region 4 with fail;generalize hw5:wr.alloc (.cells #[.int .i64 u.1,.bool u.2] 92)=w5 at *;clear hw5;have HB5:=hid (bL HB.out n5);have HR45:=hid (rK HR4.out n5);have HP5:=hid p5;obtain ⟨g5,hg5⟩:∃ g5,g5=wr.heap.size:=⟨_,rfl⟩
   rw [<- hg5] at HP5;rw [<- hg5];clear n5 p5 hg5 x0 x1 HB HR4;have y0:=CX HP5.out 0 (.int .i64 u.1) rfl;have y3:=CX HR45.out 3 (.slice m.oA m.ords.length m.oc) rfl;go_wp2_with fail;refine (HVI.out u.1 w5 HB5.out).mono ?_;rintro e w6 ⟨V,cv,rfl,hown,hb6⟩;have HOW:=hid hown;have HB6:=hid (bL HB5.out hb6);have HR46:=hid (rK HR45.out hb6)
   have HP6:=hid (rK HP5.out hb6);have hfew:=vf m.v u.1;obtain ⟨own,ho⟩:∃ own,own=vO m.v u.1:=⟨_,rfl⟩
   rw [<- ho] at HOW HBAD HNEXT hfew;rw [<- ho];clear hown hb6 y0 y3 HR45 HP5 HB5 ho;have HCO:=hid (OR.cells HOW.out);have hcap:=OR.cap HOW.out;have HCAP:=hid hcap;have HCT:=hid (vcontains_any own u V cv w6 HCO.out HCAP.out);unfold maxLen at hcap;go_wp2_with (refine lr HP6.out Tryz.underlying92 ?_)
   refine HCT.out.mono ?_;rintro e w7 ⟨rfl,hb7⟩;have HB7:=hid (bL HB6.out hb7);have HR47:=hid (rK HR46.out hb7);have HCO7:=hid (HCO.out.below hb7);clear hb7 HCT HB6 HR46 HP6 HCO HOW
   cases hcv:Hs own u with
   |false =>
    have HR:=hid (HBAD.out (by rw [hcv];rfl));clear hcv HBAD HNEXT;go_wp2_with fail;go_ret;exact ⟨rb HR.out.symm,HB7.out⟩
   |true =>
    have HBAD2:=hid (show aV l (-1) own=false->pV m.v l=false from fun h=>HBAD.out (by rw [h,Bool.and_false]));have HNEXT2:=hid (fun (h:aV l (-1) own=true)=>HNEXT.out (by rw [hcv,h];rfl));clear hcv HBAD HNEXT HNO;generalize wr=wo at *;go_wp2_with fail
    go_loopw [4,8,11,29] (fun _ la _ j wr=>∃ (i:Nat) (z:Int),i<=own.length/\j=.int .i64 i/\la=.int .i64 z/\(-1<=z/\z<=(l.length:Int))/\aV l z (own.drop i)=aV l (-1) own/\wr.heap[g4]? = some (.cells (iQ m) 30)/\Below w7.heap.size w7 wr) (fun _ _ _ j _=>own.length - (intOf j).toNat)
    case atStart=>exact ⟨0,-1,Nat.zero_le _,rfl,rfl,by omega,rfl,HR47.out,Below.refl _ _⟩
    case round =>
     obtain ⟨i,z,hi,rfl,rfl,hz,hasc,hr4,hbi⟩:=hrel;have HBI:=hid hbi;have HR4:=hid hr4;have HASC:=hid hasc;clear hbi hr4 hasc;by_cases hil:i<own.length
     ·have hil1:(i:Int)<(own.length:Int):=by omega
      obtain ⟨g2,o2,hA2,hg2,hx2⟩:=eP vC (by decide) HCO7.out (by omega);have x0:=(HBI.out.cell (p:=⟨g2,o2+i*2+0,none⟩) hg2).trans (hx2 i hil 0 _ rfl);have x1:=(HBI.out.cell (p:=⟨g2,o2+i*2+1,none⟩) hg2).trans (hx2 i hil 1 _ rfl);rw [Nat.add_zero] at x0;have HD:=hid (ascV_drop (l:=l) (last:=z) hil);have hzb:=iZ (iV own[i]) l;rw [hA2];clear hx2 hA2
      obtain ⟨v,hv⟩:∃ v,v=own[i]:=⟨_,rfl⟩
      rw [<- hv] at x0 x1 HD hzb;clear hv;obtain ⟨n5,p5⟩:=Na wr (.cells #[.int .i64 v.1,.bool v.2] 92);go_upto_region 11 with fail;generalize hw5:wr.alloc (.cells #[.int .i64 v.1,.bool v.2] 92)=w8 at *;clear hw5;have HB8:=hid (bL HBI.out n5);have HR48:=hid (rK HR4.out n5);have HP8:=hid p5;obtain ⟨g8,hg8⟩:∃ g8,g8=wr.heap.size:=⟨_,rfl⟩
      rw [<- hg8] at HP8;rw [<- hg8];clear n5 p5 hg8 x0 x1 HBI HR4;have hpl:=vA l v A c w8 (HC.out.below (bL HB7.out HB8.out)) HN.out;rw [HA1.out] at hpl;have HPL:=hid hpl;clear hpl;go_wp2_with (refine lr HP8.out Tryz.underlying92 ?_)
      refine HPL.out.mono ?_;rintro e w9 ⟨rfl,hb9⟩;have HB9:=hid (bL HB8.out hb9);have HR49:=hid (rK HR48.out hb9);clear hb9 HPL HB8 HR48 HP8;generalize IZ (iV v) l=y at *;by_cases hy:y<=z
      ·have HR:=hid (HBAD2.out (by rw [<- HASC.out,HD.out,decide_eq_false (by omega)];rfl))
       clear HD;go_wp2_with fail;go_ret;exact ⟨rb HR.out.symm,bL HB7.out HB9.out⟩
      ·have HN2:=hid (show aV l y (own.drop (i+1))=aV l (-1) own by rw [<- HASC.out,HD.out,decide_eq_true (by omega)];rfl)
       clear HD;go_wp2_with fail;go_roundw
       case rel=>exact ⟨i+1,y,by omega,by go_num,rfl,by omega,HN2.out,HR49.out,HB9.out⟩
       case measure=>simp [intOf];omega
     ·have hil1:¬ (i:Int)<(own.length:Int):=by omega
      have HN3:=hid (HNEXT2.out (by rw [<- HASC.out];exact ascV_end (by omega)));go_wp2_with fail;go_roundw
      case rel=>exact ⟨k+1,by omega,by go_num,HN3.out,HR4.out,bL HB7.out HBI.out⟩
      case measure=>simp [intOf];omega
  ·have hlt1:¬ (k:Int)<(l.length:Int):=by omega
   have HR:=hid (paired_yes (x:=m.v) (l:=l) fun i hi=>HNO.out i hi (by omega));go_wp2_with fail;go_ret;exact ⟨rb HR.out.symm,HB.out⟩
def Dc (x:IV) (vs:List (Int × Bool)) (w:World) (e:Ending) (w':World):Prop:=e=.returned (.int .i64 (sE x vs))/\Below w.heap.size w w'
theorem Dc.of {x:IV} {vs:List (Int × Bool)} {w w':World} {k:Int} (h:sE x vs=k) (hb:Below w.heap.size w w'):Dc x vs w (.returned (.int .i64 k)) w':=⟨by rw [h],hb⟩
theorem scheck_any (m:IM) (r:RM) (w:World) (hm:IA w m) (hml:m.ords.length<=3) (hr:Rt w r) :
  Calls Tryz.prog 19 #[iA m,ro r] w (Dc m.v r.r.vis w):=by
 obtain ⟨k1,k2,k3⟩:=aL w (.cells (iQ m) 30) (.cells (rR r) 34);have HB:=hid k3;have HK1:=hid k1;have HK2:=hid k2;have HO:=hid hm.ords;have hol:=hm.ol;have HOL:=hid hm.ol;have HX:=hid hm.apart;have HBF:=hid hm.before;have hxl:=hm.xl;have hbl:=hm.bl;have HV:=hid hr.vis;have HVL:=hid hr.vl;have hvl:=hr.vl;have HXE:=hid (show m.v.apart=m.apart from rfl)
 have HBE:=hid (show m.v.before=m.before from rfl);have HS:=hid (show sE m.v r.r.vis=if r.r.vis.length=0 then 2 else if r.r.vis.any (bO m.v) then 2 else if r.r.vis.any (oV m.v) then 9 else if tW r.r.vis then 6 else if !pV m.v r.r.vis then 19
  else if m.apart.any (aB r.r.vis) then 20 else if m.before.any (BB r.r.vis) then 21 else 0 from rfl)
 unfold maxLen at hol hxl hbl hvl;clear hm hr k1 k2 k3;go_enter Tryz.func19,Tryz.ntmps19;(try simp only [Bm]);go_upto_region 1 with fail;rw [iq,rq];generalize (w.alloc (.cells (iQ m) 30)).alloc (.cells (rR r) 34)=wa at *;obtain ⟨h1,hh1⟩:∃ h1,h1=w.heap.size:=⟨_,rfl⟩
 obtain ⟨h2,hh2⟩:∃ h2,h2=w.heap.size+1:=⟨_,rfl⟩
 rw [<- hh2] at HK2;rw [<- hh1] at HK1;rw [<- hh2,<- hh1];clear hh1 hh2;have r3:=CX HK2.out 3 (.slice r.C r.r.vis.length r.cc) rfl;obtain ⟨vs,hvs⟩:∃ vs,vs=r.r.vis:=⟨_,rfl⟩
 rw [<- hvs] at HV HVL hvl HS r3;have HVS:=hid hvs;clear hvs;by_cases h0:vs.length=0
 ·have h0b:=iB (show (vs.length:Int)=0 by omega)
  have HR:=hid (show sE m.v vs=2 by rw [HS.out,if_pos h0]);clear h0;go_wp2_with fail;go_ret;exact Dc.of (by rw [<- HVS.out];exact HR.out) HB.out
 ·have h0b:=ib (show ¬ (vs.length:Int)=0 by omega)
  have HS1:=hid (HS.out.trans (if_neg h0));have HC1:=hid (chk1_cont vs r.C r.cc m h1 wa (HV.out.below HB.out) HVL.out hml HK1.out);clear h0 HS;go_upto_region 2 with fail;go_wp2_with fail;refine HC1.out.mono ?_;rintro e w1 ⟨rfl,hb1⟩;have HB1:=hid (bL HB.out hb1);have HK11:=hid (rK HK1.out hb1);clear hb1 HC1 HB HK1 HK2 r3
  cases hbad:vs.any (bO m.v) with
  |true =>
   have HR:=hid (show sE m.v vs=2 by rw [HS1.out,if_pos hbad]);clear hbad;go_wp2_with fail;go_ret;exact Dc.of (by rw [<- HVS.out];exact HR.out) HB1.out
  |false =>
   have HS2:=hid (HS1.out.trans (if_neg (by rw [hbad];exact Bool.false_ne_true)));have HRNG:=hid (show ∀ v ∈ vs,0<=v.1/\v.1<(m.ords.length:Int) from fun v hv=>by rw [<- oL m];exact bad_rng hbad v hv);have HC2:=hid (chk2_cont vs r.C r.cc m h1 w1 (HV.out.below HB1.out) HVL.out hml (HO.out.below HB1.out) HOL.out HRNG.out HK11.out);clear hbad HS1;go_wp2_with fail;refine HC2.out.mono ?_
   rintro e w2 ⟨rfl,hb2⟩;have HB2:=hid (bL HB1.out hb2);have HK12:=hid (rK HK11.out hb2);clear hb2 HC2 HB1 HK11
   cases hoff:vs.any (oV m.v) with
   |true =>
    have HR:=hid (show sE m.v vs=9 by rw [HS2.out,if_pos hoff]);clear hoff;go_wp2_with fail;go_ret;exact Dc.of (by rw [<- HVS.out];exact HR.out) HB2.out
   |false =>
    have HS3:=hid (HS2.out.trans (if_neg (by rw [hoff];exact Bool.false_ne_true)));have HC3:=hid (twice_any vs r.C r.cc w2 (HV.out.below HB2.out) HVL.out);clear hoff HS2;go_wp2_with fail;refine HC3.out.mono ?_;rintro e w3 ⟨rfl,hb3⟩;have HB3:=hid (bL HB2.out hb3);have HK13:=hid (rK HK12.out hb3);clear hb3 HC3 HB2 HK12
    cases htw:tW vs with
    |true =>
     have HR:=hid (show sE m.v vs=6 by rw [HS3.out,if_pos htw]);clear htw;go_wp2_with fail;go_ret;exact Dc.of (by rw [<- HVS.out];exact HR.out) HB3.out
    |false =>
     have HS4:=hid (HS3.out.trans (if_neg (by rw [htw];exact Bool.false_ne_true)));have HC4:=hid (paired_any m vs r.C r.cc w3 (HO.out.below HB3.out) HOL.out hml (HV.out.below HB3.out) HVL.out);clear htw HS3;go_wp2_with (refine lr HK13.out Tryz.underlying30 ?_)
     refine HC4.out.mono ?_;rintro e w4 ⟨rfl,hb4⟩;have HB4:=hid (bL HB3.out hb4);have HK14:=hid (rK HK13.out hb4);clear hb4 HC4 HB3 HK13
     cases hpa:pV m.v vs with
     |false =>
      have HR:=hid (show sE m.v vs=19 by rw [HS4.out,if_pos (by rw [hpa];rfl)]);clear hpa;go_wp2_with fail;go_ret;exact Dc.of (by rw [<- HVS.out];exact HR.out) HB4.out
     |true =>
      have HS5:=hid (HS4.out.trans (if_neg (by rw [hpa];exact Bool.false_ne_true)));clear hpa HS4;have r4:=CX HK14.out 4 (.slice m.xA m.apart.length m.xc) rfl;go_wp2_with fail;clear r4
      go_loopw [4,35] (fun _ j wr=>∃ k:Nat,k<=m.apart.length/\j=.int .i64 k/\(∀ i (h:i<m.apart.length),i<k->aB vs m.apart[i]=false)/\wr.heap[h1]? = some (.cells (iQ m) 30)/\Below w.heap.size w wr) (fun _ j _=>m.apart.length - (intOf j).toNat)
      case atStart=>exact ⟨0,Nat.zero_le _,rfl,fun i _ h=>absurd h (Nat.not_lt_zero _),HK14.out,HB4.out⟩
      case round =>
       clear HK14 HB4;obtain ⟨k,hk,rfl,hno,hr1,hbel⟩:=hrel;have HB:=hid hbel;have HNO:=hid hno;have HR1:=hid hr1;clear hbel hno hr1;by_cases hlt:k<m.apart.length
       ·have hlt1:(k:Int)<(m.apart.length:Int):=by omega
        obtain ⟨g1,o1,hA1,hg1,hx1⟩:=eP pC (by decide) HX.out (by omega);have x0:=(HB.out.cell (p:=⟨g1,o1+k*2+0,none⟩) hg1).trans (hx1 k hlt 0 _ rfl);have x1:=(HB.out.cell (p:=⟨g1,o1+k*2+1,none⟩) hg1).trans (hx1 k hlt 1 _ rfl);rw [Nat.add_zero] at x0;have HBAD:=hid (fun h=>any_yes (p:=aB vs) hlt h)
        have HNEXT:=hid (show aB vs m.apart[k]=false->∀ i (h:i<m.apart.length),i<k+1->aB vs m.apart[i]=false from fun h i hi hik=>by
         by_cases e:i=k
         ·subst e;exact h
         ·exact HNO.out i hi (by omega))
        rw [hA1];clear hx1 hA1;obtain ⟨u,hu⟩:∃ u,u=m.apart[k]:=⟨_,rfl⟩
        rw [<- hu] at x0 x1 HBAD HNEXT;clear hu;obtain ⟨u0,u1⟩:=u;simp only at x0 x1;obtain ⟨n5,p5⟩:=Na wr (.cells #[.int .i64 u0,.int .i64 u1] 139);go_upto_region 13 with fail;generalize hw5:wr.alloc (.cells #[.int .i64 u0,.int .i64 u1] 139)=w5 at *;clear hw5;have HB5:=hid (bL HB.out n5);have HR15:=hid (rK HR1.out n5);have HP5:=hid p5
        obtain ⟨g5,hg5⟩:∃ g5,g5=wr.heap.size:=⟨_,rfl⟩
        rw [<- hg5] at HP5;rw [<- hg5];clear n5 p5 hg5 x0 x1 HB HR1;have y0:=CX HP5.out 0 (.int .i64 u0) rfl;have HH:=hid (fun (o:Int) (w':World) (hb:Below w.heap.size w w')=>shas_any vs o r.C r.cc w' (HV.out.below hb) HVL.out);go_wp2_with fail;refine (HH.out u0 w5 HB5.out).mono ?_;rintro e w6 ⟨rfl,hb6⟩;have HB6:=hid (bL HB5.out hb6);have HR16:=hid (rK HR15.out hb6)
        have y1:=CX (rK HP5.out hb6) 1 (.int .i64 u1) rfl;clear hb6 y0 HB5 HR15 HP5
        cases hh0:Ai vs u0 with
        |false =>
         have HN:=hid (HNEXT.out (by unfold aB;rw [hh0];rfl));clear hh0 HNEXT HBAD;go_wp2_with fail;go_roundw
         case rel=>exact ⟨k+1,by omega,by go_num,HN.out,HR16.out,HB6.out⟩
         case measure=>simp [intOf];omega
        |true =>
         have HN:=hid (show Ai vs u1=false->_ from fun h=>HNEXT.out (by unfold aB;rw [hh0,h];rfl));have HY:=hid (show Ai vs u1=true->_ from fun h=>HBAD.out (by unfold aB;rw [hh0,h];rfl));clear hh0 HNEXT HBAD;go_wp2_with fail;refine (HH.out u1 w6 HB6.out).mono ?_;rintro e w7 ⟨rfl,hb7⟩;have HB7:=hid (bL HB6.out hb7);have HR17:=hid (rK HR16.out hb7)
         clear hb7 y1 HB6 HR16
         cases hh1:Ai vs u1 with
         |false =>
          have HN2:=hid (HN.out hh1);clear hh1 HN HY;go_wp2_with fail;go_roundw
          case rel=>exact ⟨k+1,by omega,by go_num,HN2.out,HR17.out,HB7.out⟩
          case measure=>simp [intOf];omega
         |true =>
          have HR:=hid (show sE m.v vs=20 by rw [HS5.out,if_pos (HY.out hh1)]);clear hh1 HN HY;go_wp2_with fail;go_ret;exact Dc.of (by rw [<- HVS.out];exact HR.out) HB7.out
       ·have hlt1:¬ (k:Int)<(m.apart.length:Int):=by omega
        have HS6:=hid (HS5.out.trans (if_neg (by rw [any_none (p:=aB vs) (l:=m.apart) fun i hi=>HNO.out i hi (by omega)];exact Bool.false_ne_true)));have r5:=CX HR1.out 5 (.slice m.bA m.before.length m.bc) rfl;clear HS5 HNO;generalize wr=wo at *;go_wp2_with fail;clear r5
        go_loopw [4,53] (fun _ j wr=>∃ k:Nat,k<=m.before.length/\j=.int .i64 k/\(∀ i (h:i<m.before.length),i<k->BB vs m.before[i]=false)/\Below w.heap.size w wr) (fun _ j _=>m.before.length - (intOf j).toNat)
        case atStart=>exact ⟨0,Nat.zero_le _,rfl,fun i _ h=>absurd h (Nat.not_lt_zero _),HB.out⟩
        case round =>
         clear HR1 HB;obtain ⟨i,hi,rfl,hno,hbel⟩:=hrel;have HB:=hid hbel;have HNO:=hid hno;clear hbel hno;by_cases hil:i<m.before.length
         ·have hil1:(i:Int)<(m.before.length:Int):=by omega
          obtain ⟨g1,o1,hA1,hg1,hx1⟩:=eP pC (by decide) HBF.out (by omega);have x0:=(HB.out.cell (p:=⟨g1,o1+i*2+0,none⟩) hg1).trans (hx1 i hil 0 _ rfl);have x1:=(HB.out.cell (p:=⟨g1,o1+i*2+1,none⟩) hg1).trans (hx1 i hil 1 _ rfl);rw [Nat.add_zero] at x0;have HBAD:=hid (fun h=>any_yes (p:=BB vs) hil h)
          have HNEXT:=hid (show BB vs m.before[i]=false->∀ j (h:j<m.before.length),j<i+1->BB vs m.before[j]=false from fun h j hj hji=>by
           by_cases e:j=i
           ·subst e;exact h
           ·exact HNO.out j hj (by omega))
          rw [hA1];clear hx1 hA1;obtain ⟨u,hu⟩:∃ u,u=m.before[i]:=⟨_,rfl⟩
          rw [<- hu] at x0 x1 HBAD HNEXT;clear hu;obtain ⟨u0,u1⟩:=u;simp only at x0 x1;obtain ⟨n5,p5⟩:=Na wr (.cells #[.int .i64 u0,.int .i64 u1] 139);go_upto_region 19 with fail;generalize hw5:wr.alloc (.cells #[.int .i64 u0,.int .i64 u1] 139)=w5 at *;clear hw5;have HB5:=hid (bL HB.out n5);have HP5:=hid p5;obtain ⟨g5,hg5⟩:∃ g5,g5=wr.heap.size:=⟨_,rfl⟩
          rw [<- hg5] at HP5;rw [<- hg5];clear n5 p5 hg5 x0 x1 HB;have y0:=CX HP5.out 0 (.int .i64 u0) rfl;have y1:=CX HP5.out 1 (.int .i64 u1) rfl;have HBC:=hid (sbefore_any vs u0 u1 r.C r.cc w5 (HV.out.below HB5.out) HVL.out);go_wp2_with fail;refine HBC.out.mono ?_;rintro e w6 ⟨rfl,hb6⟩;have HB6:=hid (bL HB5.out hb6);clear hb6 y0 y1 HB5 HP5 HBC
          cases hbv:bV vs u0 u1 with
          |true =>
           have HN:=hid (HNEXT.out (by unfold BB;rw [hbv];rfl));clear hbv HNEXT HBAD;go_wp2_with fail;go_roundw
           case rel=>exact ⟨i+1,by omega,by go_num,HN.out,HB6.out⟩
           case measure=>simp [intOf];omega
          |false =>
           have HR:=hid (show sE m.v vs=21 by rw [HS6.out,if_pos (HBAD.out (by unfold BB;rw [hbv];rfl))]);clear hbv HNEXT HBAD;go_wp2_with fail;go_ret;exact Dc.of (by rw [<- HVS.out];exact HR.out) HB6.out
         ·have hil1:¬ (i:Int)<(m.before.length:Int):=by omega
          have HR:=hid (show sE m.v vs=0 by rw [HS6.out,if_neg (by rw [any_none (p:=BB vs) (l:=m.before) fun j hj=>HNO.out j hj (by omega)];exact Bool.false_ne_true)]);go_wp2_with fail;go_ret;exact Dc.of (by rw [<- HVS.out];exact HR.out) HB.out
end Go.Proofs.YtjcekdiocliddaaGreatDoor

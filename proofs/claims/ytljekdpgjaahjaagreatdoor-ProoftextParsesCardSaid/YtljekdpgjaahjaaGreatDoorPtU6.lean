/- lorryref39: Parse. (Printed by wip/mku6.py.) -/
import Derived.Test.YtljekdpgjaahjaaGreatDoorPtU3
import Derived.Test.YtljekdpgjaahjaaGreatDoorPtU5
import Derived.Test.YtljekdpgjaahjaaGreatDoorPtPa
namespace Go.Proofs.YtljekdpgjaahjaaGreatDoor
open Go.RowKit Num Txt Pf
set_option linter.unusedVariables false
attribute [local go_sem] B_size B_get B_toList B_mk B_extract B_append
theorem Cells.left {w:World} {A:Option Addr} {xs ys:List Value} (h:Cells w A (xs ++ ys)):Cells w A xs:=by
 intro h0
 obtain ⟨b,o,hA,hb,hx⟩:=h (by rw [List.length_append];omega)
 exact ⟨b,o,hA,hb,fun k v hv=>hx k v (by rw [List.getElem?_append_left (List.getElem?_eq_some_iff.1 hv).1];exact hv)⟩
theorem OwnS.younger {w:World} {Bs n c:Nat} {e:TypeId} {A:Option Addr} {xs:List Value} (h:OwnS w Bs e A n c xs):∀ b o sp,A=some ⟨b,o,sp⟩→b<w.heap.size:=by
 intro b o sp hA
 have h1:OwnR w Bs e 1 A n c xs:=h
 rcases h1.form with hf | ⟨g,hf⟩
 ·rw [hf] at hA;cases hA
 ·have h2:=hf
  rw [hA] at h2
  injection h2 with h2
  injection h2 with h2 _ _
  subst h2
  rw [hf] at h1
  exact h1.typ.2.1
theorem rlines_yes (s:Str) (w:World) (hl:s.length≤100000) (ht:(linesG s).2=[]) :
  Calls Tryz.prog 36 #[.string (B s)] w fun e w'=>∃ (A:Option Addr) (c:Nat),e=.returned (.tuple #[.slice A (linesG s).1.length c,.bool true])∧Cells w' A (strs (linesG s).1)∧(linesG s).1.length≤c∧c≤maxLen∧(∀ b o sp,A=some ⟨b,o,sp⟩→b<w'.heap.size)∧Below w.heap.size w w':=by
 have h:=rlines_any s w hl
 have hL:linesL s=(linesG s).1:=by unfold linesL;rw [if_pos ht,List.append_nil]
 rw [hL,ht] at h
 refine h.mono ?_
 rintro e w' ⟨A,c,rfl,ho,hb⟩
 exact ⟨A,c,rfl,ho.cells,ho.cap.1,ho.cap.2,ho.younger,hb⟩
theorem rlines_no (s:Str) (w:World) (hl:s.length≤100000) (ht:(linesG s).2≠[]) :
  Calls Tryz.prog 36 #[.string (B s)] w fun e w'=>∃ (A:Option Addr) (c:Nat),e=.returned (.tuple #[.slice A ((linesG s).1.length+1) c,.bool false])∧Cells w' A (strs (linesG s).1)∧(linesG s).1.length+1≤c∧c≤maxLen∧(∀ b o sp,A=some ⟨b,o,sp⟩→b<w'.heap.size)∧Below w.heap.size w w':=by
 have h:=rlines_any s w hl
 have hL:linesL s=(linesG s).1 ++ [(linesG s).2]:=by unfold linesL;rw [if_neg ht]
 have he:(linesG s).2.isEmpty=false:=by
  cases h:(linesG s).2 with
  |nil=>exact absurd h ht
  |cons=>rfl
 rw [hL,he] at h
 refine h.mono ?_
 rintro e w' ⟨A,c,rfl,ho,hb⟩
 have hc:=ho.cells
 have hcap:=ho.cap
 have hyo:=ho.younger
 rw [show strs ((linesG s).1 ++ [(linesG s).2])=strs (linesG s).1 ++ strs [(linesG s).2] by unfold strs;rw [List.map_append]] at hc
 have hlen:((linesG s).1 ++ [(linesG s).2]).length=(linesG s).1.length+1:=by simp
 rw [hlen] at hcap ⊢
 exact ⟨A,c,rfl,hc.left,hcap.1,hcap.2,hyo,hb⟩
theorem nodeR_nil (ls:List Str) (n:Nat):nodeR [] ls n=(none,ls,n):=by
 unfold nodeR
 rw [lineN_nil leafW (by decide),lineN_nil nodeW (by decide)]
theorem headR_nil:headR []=none:=headR_no (.inr (.inl (by
 have:=(wordsL_le []).1
 have h0:([]:Str).length=0:=rfl
 omega)))
theorem nodeR_cnt {l:Str} {ls:List Str} {n:Nat} {x:NodeV} {ls1:List Str} {n1:Nat} (h:nodeR l ls n=(some x,ls1,n1)):n1+ls1.length=n+ls.length∧ls1.length≤ls.length:=by
 by_cases hw:wordsE l=0
 ·rw [nodeR_w hw] at h;exact nodeW_cnt h
 ·rw [nodeR_no hw] at h;cases h
theorem nodeS_three (x:NodeV):3≤(nodeS x).length:=by
 unfold nodeS
 split
 ·unfold lineS joinP
  simp only [List.length_append,List.length_cons,List.length_nil]
  omega
 ·unfold lineS joinP
  simp only [List.length_append,List.length_cons,List.length_nil]
  omega
theorem getD_ne {L:List Str} {n:Nat} (h:L.getD n []≠[]):n<L.length∧L.drop n=L.getD n [] :: L.drop (n+1):=by
 cases hd:L.drop n with
 |nil=>exact absurd (getD_end hd).2.1 h
 |cons l ls =>
  obtain ⟨h1,h2,h3⟩:=getD_drop hd
  exact ⟨h1,by rw [h2,h3]⟩
theorem parseF_get {f n:Nat} {nd:List NodeV} {L:List Str} {tb:Bool} (hf:0<f) (hl:nd.length<1024) :
  (L.getD n []=endW→parseF f nd (L.drop n) tb n=if L.drop (n+1)=[]∧tb=false then (nd,0,0) else ([],n+2,3))∧(L.getD n []≠endW→parseF f nd (L.drop n) tb n=contF f nd tb (nodeR (L.getD n []) (L.drop (n+1)) (n+1))):=by
 cases hd:L.drop n with
 |nil =>
  obtain ⟨h1,h2,h3⟩:=getD_end hd
  rw [h2,h3]
  refine ⟨fun h=>absurd h (by decide),fun _=>?_⟩
  rw [parseF_nil hf,nodeR_nil]
  rfl
 |cons l ls =>
  obtain ⟨h1,h2,h3⟩:=getD_drop hd
  rw [h2,h3]
  refine ⟨fun h=>by rw [h];exact parseF_end hf,fun h=>?_⟩
  rw [parseF_step hf h,if_neg (fun h=>by omega)]
theorem node_took {L:List Str} {n n1:Nat} {x:NodeV} {ls1:List Str} (h:nodeR (L.getD n []) (L.drop (n+1)) (n+1)=(some x,ls1,n1)) (h1:ls1=L.drop n1) :
  n<L.length∧n<n1∧n1≤L.length∧(L.drop n1).length<(L.drop n).length∧(unl (L.drop n1)).length+3≤(unl (L.drop n)).length:=by
 subst h1
 have hne:L.getD n []≠[]:=fun e=>by rw [e,nodeR_nil] at h;cases h
 obtain ⟨hn,hd⟩:=getD_ne hne
 obtain ⟨e1,e2⟩:=nodeR_cnt h
 obtain ⟨e3,_⟩:=nodeR_some h
 rw [← hd] at e3
 have e4:=congrArg List.length e3
 rw [List.length_append] at e4
 have e5:=nodeS_three x
 have e6:(L.drop (n+1)).length=L.length - (n+1):=List.length_drop ..
 have e7:(L.drop n).length=L.length - n:=List.length_drop ..
 refine ⟨hn,by omega,by omega,by omega,by omega⟩
theorem unl_drop (L:List Str) (n:Nat):(unl (L.drop n)).length≤(unl L).length:=by
 have:unl L=unl (L.take n) ++ unl (L.drop n):=by rw [← unl_append,List.take_append_drop]
 rw [this,List.length_append];omega
theorem parseR_get {s:Str} (h:s.length≤65536):(headR ((linesG s).1.getD 0 [])=none→parseR s=(noProof,1,3))∧(∀ q P,headR ((linesG s).1.getD 0 [])=some (q,P)→parseR s=finR q P (parseF (linesG s).1.length [] ((linesG s).1.drop 1) (!(linesG s).2.isEmpty) 1)∧0<(linesG s).1.length):=by
 unfold parseR
 rw [if_neg (by omega)]
 cases hl:(linesG s).1 with
 |nil =>
  refine ⟨fun _=>rfl,fun q P h=>?_⟩
  rw [show ([]:List Str).getD 0 []=[] from rfl,headR_nil] at h
  cases h
 |cons l ls =>
  rw [show (l :: ls).getD 0 []=l from rfl]
  refine ⟨fun h=>?_,fun q P h=>⟨?_,by simp⟩⟩
  ·simp only;rw [h]
  ·simp only;rw [h];rfl
theorem PaB.kpL {w w':World} {Bs pb rb g ca n c:Nat} {q:Bool} {P:PlanM} {X A:Option Addr} {nd:List NodeM} {L:List Str} (h:PaB w Bs pb rb q P X ca nd) (hk:KpB g w w') (hg:RdL w g A c L n) (h1:pb≠g) (h2:rb≠g):PaB w' Bs pb rb q P X ca nd :=
 ⟨hk.row h.row h1,hk.row h.res h2,h.plan.keptB hk hg.row (by decide) (by decide) (by decide) (by decide),h.own.keptB hk hg.row (by decide),fun m hm=>(h.each m hm).keptB hk hg.row (by decide) (by decide)⟩
def atR (g:Nat) (w:World):Nat:=match w.cell? ⟨g,1,none⟩ with | some (.int _ n)=>n.toNat | _=>0
theorem atR_at {g c n:Nat} {w:World} {A:Option Addr} {L:List Str} (h:RdL w g A c L n):atR g w=n:=by unfold atR;rw [(cells2 h.row).2];exact Int.toNat_natCast n
def PuR (R:ProofV × Nat × Int) (tb:Bool) (g pb Bs:Nat) (q:Bool) (P:PlanM) (A:Option Addr) (c:Nat) (L:List Str) (w wr:World):Prop :=
 ∃ (n f:Nat) (X:Option Addr) (ca:Nat) (nd:List NodeM),RdL wr g A c L n∧Below w.heap.size w wr∧(L.drop n).length<f∧n≤L.length∧R=finR q P.v (parseF f (nd.map (fun x:NodeM=>x.n)) (L.drop n) tb n)∧3*nd.length+(unl (L.drop n)).length≤3000∧PaB wr Bs pb w.heap.size q P X ca nd∧Bs≤wr.heap.size
set_option maxHeartbeats 8000000 in
set_option maxRecDepth 100000 in
theorem rparse_any (s0:Str) (w:World) (hs:s0.length≤3000) :
  Calls Tryz.prog 14 #[.string (B s0)] w (ParseE (parseR s0) w):=by
 obtain ⟨n1,p1⟩:=new_at w proofZ
 have hb1:¬ (65536:Int)<(s0.length:Int):=by omega
 have hlo:=linesG_of s0
 obtain ⟨hR0,hR1⟩:=parseR_get (s:=s0) (by omega)
 have HY:=Lib.hid (fun h=>rlines_yes s0 (w.alloc proofZ) (by omega) h)
 have HN:=Lib.hid (fun h=>rlines_no s0 (w.alloc proofZ) (by omega) h)
 obtain ⟨hl1,hl2⟩:=lines_le hlo
 have hul:(unl (linesG s0).1).length≤3000:=by
  have:=congrArg List.length hlo.eq
  rw [List.length_append] at this
  omega
 generalize parseR s0=R at *
 generalize (linesG s0).1=L at *
 generalize (linesG s0).2=t at *
 have hLn:L.length≤3000:=by omega
 have HR0:=Lib.hid hR0
 have HR1:=Lib.hid hR1
 have HUL:=Lib.hid hul
 have HLL:=Lib.hid (show ∀ l ∈ L,l.length≤3000 from fun l hl=>by have:=hl2 l hl;omega)
 clear hlo hl1 hl2 hul hR0 hR1
 go_enter Tryz.func14,Tryz.ntmps14
 (try simp only [B_mk])
 go_upto_region 3 with fail
 generalize w.alloc proofZ=w1 at *
 have HB1:=Lib.hid n1
 have HP1:=Lib.hid p1
 clear n1 p1
 have hwh:∃ wh:Bool,t.isEmpty=wh:=⟨_,rfl⟩
 obtain ⟨wh,hwh⟩:=hwh
 have HWH:=Lib.hid hwh
 have HX:Hid (Calls Tryz.prog 36 #[.string (B s0)] w1 fun e w'=>∃ (A:Option Addr) (c k:Nat),e=.returned (.tuple #[.slice A k c,.bool wh])∧k=(if wh=true then L.length else L.length+1)∧Cells w' A (strs L)∧k≤c∧c≤maxLen∧(∀ b o sp,A=some ⟨b,o,sp⟩→b<w'.heap.size)∧Below w1.heap.size w1 w'):=by
  refine Lib.hid ?_
  cases wh with
  |true =>
   refine (HY.out (List.isEmpty_iff.1 hwh)).mono ?_
   rintro e w' ⟨A,c,rfl,h1,h2,h3,h4,h5⟩
   exact ⟨A,c,_,rfl,rfl,h1,h2,h3,h4,h5⟩
  |false =>
   refine (HN.out (fun h=>by rw [h] at hwh;cases hwh)).mono ?_
   rintro e w' ⟨A,c,rfl,h1,h2,h3,h4,h5⟩
   exact ⟨A,c,_,rfl,rfl,h1,h2,h3,h4,h5⟩
 clear hwh HY HN
 go_wp2_with fail
 refine HX.out.mono ?_
 rintro e w2 ⟨A,c,k,rfl,hk,hcl,hkc,hcm,hyo,hb2⟩
 have HB2:=Lib.hid (below_lift HB1.out hb2)
 have HP2:=Lib.hid (row_keep HP1.out hb2)
 have HCL:=Lib.hid hcl
 have HYO:=Lib.hid hyo
 have HCM:=Lib.hid hcm
 clear hb2 HX HB1 HP1 hcl hyo
 have HK:=Lib.hid hk
 have HKC:=Lib.hid hkc
 have hcmx:c≤2 ^ 63 - 1:=by unfold maxLen at hcm;exact hcm
 clear hk hcm
 go_upto_if 23 with (fail)
 go_cut [5] (fun l wx=>l=.slice A L.length c∧L.length≤c∧wx=w2)
 case first =>
  cases wh with
  |true =>
   have hk:k=L.length:=by rw [HK.out,if_pos rfl]
   subst hk
   go_wp2_with fail
   go_meet
   exact ⟨rfl,HKC.out,rfl⟩
  |false =>
   have hk:k=L.length+1:=by rw [HK.out,if_neg (by decide)]
   subst hk
   have e1:((L.length+1:Nat):Int) - 1=(L.length:Int):=by omega
   have e2:(((L.length+1:Nat):Int) - 1).toNat=L.length:=by omega
   have e3:(L.length:Int)+1 - 1=(L.length:Int):=by omega
   have e4:L.length≤c:=by have:=HKC.out;omega
   go_wp2_with fail
   go_meet
   exact ⟨by first | rfl | go_num,by have:=HKC.out;omega,rfl⟩
 case rest =>
  obtain ⟨rfl,hlc,rfl⟩:=hcut
  have HCL:=Lib.hid HCL.out
  clear HK HKC hkc
  obtain ⟨n3,p3⟩:=new_at wc (.cells #[.slice A L.length c,.int .i64 0] 86)
  have hs3:(wc.alloc (.cells #[.slice A L.length c,.int .i64 0] 86)).heap.size=wc.heap.size+1:=Array.size_push ..
  have HB3:=Lib.hid (below_lift HB2.out n3)
  have HP3:=Lib.hid (row_keep HP2.out n3)
  have HR3:=Lib.hid (show RdL (wc.alloc (.cells #[.slice A L.length c,.int .i64 0] 86)) wc.heap.size A c L 0 from ⟨p3,HCL.out.below n3,fun off sp e=>Nat.lt_irrefl _ (HYO.out _ _ _ e),⟨hlc,HCM.out⟩⟩)
  have HG:=Lib.hid (show wc.heap.size≠w.heap.size∧w.heap.size≤wc.heap.size from ⟨by have:=lt_heap HP2.out;omega,HB2.out.size⟩)
  clear n3 p3 HB2 HP2 HCL HYO
  go_upto_region 7 with fail
  generalize wc.alloc (.cells #[.slice A L.length c,.int .i64 0] 86)=w3 at *
  generalize wc.heap.size=g at *
  have HOLD:=Lib.hid HR3.out.old
  have HS3:=Lib.hid (show g<w3.heap.size∧w.heap.size≤w3.heap.size from ⟨by omega,by have:=HG.out.2;omega⟩)
  have HNX:=Lib.hid (rnext_any g A c L 0 w3 HR3.out (by omega))
  have HHD:=Lib.hid (fun w'=>rhead_any (L.getD 0 []) w' (getD_len (fun l hl=>by have:=HLL.out l hl;omega)))
  have HLEN:=Lib.hid (show ∀ l ∈ L,l.length≤100000 from fun l hl=>by have:=HLL.out l hl;omega)
  clear hs3
  generalize headR (L.getD 0 [])=hd at *
  generalize L.getD 0 []=l0 at *
  go_wp2_with fail
  refine HNX.out.mono ?_
  rintro e w4 ⟨rfl,hk4,hr4⟩
  have HB4:=Lib.hid (KpB.below_own HB3.out hk4 HG.out.2)
  have HP4:=Lib.hid (hk4.row HP3.out HG.out.1.symm)
  have HR4:=Lib.hid (show RdL w4 g A c L 1 from hr4)
  have HS4:=Lib.hid hk4.1
  have HH4:=Lib.hid (HHD.out w4)
  clear hk4 hr4 HNX HB3 HP3 HR3 HHD
  go_wp2_with fail
  refine HH4.out.mono ?_
  rintro e w5 ⟨q,PM,b,rfl,ho,hpl,hb5⟩
  obtain ⟨n6,p6⟩:=new_at w5 (.cells #[.bool q,.slice PM.A PM.rs.length PM.ca,.slice PM.C PM.us.length PM.cc,.slice none 0 0] 28)
  have HB6:=Lib.hid (below_lift (below_lift HB4.out hb5) n6)
  have HP6:=Lib.hid (row_keep (row_keep HP4.out hb5) n6)
  have HR6:=Lib.hid ((HR4.out.below hb5).below n6)
  have HPA6:=Lib.hid (show PaB (w5.alloc (.cells #[.bool q,.slice PM.A PM.rs.length PM.ca,.slice PM.C PM.us.length PM.cc,.slice none 0 0] 28)) w3.heap.size w5.heap.size w.heap.size q PM none 0 [] from ⟨p6,HP6.out,(hpl.mono HS4.out).below n6,OwnR.nil _ _ _ _,fun m hm=>absurd hm (by simp)⟩)
  have HPB:=Lib.hid (show w5.heap.size≠g∧w5.heap.size≠w.heap.size∧w3.heap.size≤w5.heap.size∧w.heap.size≤w5.heap.size from by
   have h1:=HS3.out.1
   have h2:=HS4.out
   have h3:=hb5.size
   have h4:=lt_heap HP4.out
   have h5:=HB4.out.size
   refine ⟨by omega,by omega,by omega,by omega⟩)
  have HS6:=Lib.hid (show w3.heap.size≤(w5.alloc (.cells #[.bool q,.slice PM.A PM.rs.length PM.ca,.slice PM.C PM.us.length PM.cc,.slice none 0 0] 28)).heap.size from Nat.le_trans HPB.out.2.2.1 n6.size)
  have HO:=Lib.hid ho
  clear hb5 n6 p6 hpl ho HB4 HP4 HR4 HS4 HH4
  go_upto_region 8 with fail
  generalize w5.alloc (.cells #[.bool q,.slice PM.A PM.rs.length PM.ca,.slice PM.C PM.us.length PM.cc,.slice none 0 0] 28)=w6 at *
  generalize w5.heap.size=pb at *
  cases b with
  |false =>
   have HG2:=Lib.hid (HR0.out HO.out)
   have HROW:=Lib.hid (show w6.heap[g]? = some (.cells #[.slice A L.length c,.int .i64 1] 86) from HR6.out.row)
   obtain ⟨r0,r1,r2,r3⟩:=cells4 HP6.out
   have z0:=frz HP6.out 0
   have z1:=frz HP6.out 1
   have z2:=frz HP6.out 2
   have z3:=frz HP6.out 3
   obtain ⟨_,c1⟩:=cells2 HROW.out
   have HSK:=Lib.hid (show ∀ w',w'.heap[g]? = w6.heap[g]? → w'.cell? ⟨g,1,none⟩=w6.cell? ⟨g,1,none⟩ from fun w' hb=>World.cell?_of_block (w:=w6) (w':=w') (a:=⟨g,1,none⟩) hb)
   have HC1:=Lib.hid c1
   have hS0:=(HSK.out w6.drew rfl).trans HC1.out
   have HST:=Lib.hid ((((((KpB.refl w.heap.size w6).store 0 (.bool false)).store 1 (.slice none 0 0)).store 2 (.slice none 0 0)).store 3 (.slice none 0 0)).drew.2 g (lt_heap HROW.out) HG.out.1)
   go_upto_region 9 with fail
   refine wp_region_held_drew (S:=fun w'=>w'.cell? ⟨g,1,none⟩=some (.int .i64 1)) (by kernel_rfl) hS0 (fun hHeld=>?_)
   refine wpAnyH_take (i:=0) (v:=?_) (by simp only [List.getElem?_toArray,List.getElem?_cons_zero];rfl) (by kernel_rfl) (by kernel_rfl) (by kernel_rfl) (by exact fun _ _ _ h=>h) (Or.inl ⟨by rfl,?_⟩) (by assumption) ?_
   rotate_left
   ·(intro w hSw;(try dsimp only at hSw);go_simp;(try with_reducible rfl))
   (try simp only [Act.put,List.setIfInBounds_toArray,List.set_cons_zero,List.set_cons_succ])
   refine wpAnyH_take (i:=1) (v:=?_) (by simp only [List.getElem?_toArray,List.getElem?_cons_succ,List.getElem?_cons_zero];rfl) (by kernel_rfl) (by kernel_rfl) (by kernel_rfl) (by exact fun _ _ _ h=>h) (Or.inl ⟨by rfl,?_⟩) (by assumption) ?_
   rotate_left
   ·(intro w hSw;(try dsimp only at hSw);go_simp;(try with_reducible rfl))
   (try simp only [Act.put,List.setIfInBounds_toArray,List.set_cons_zero,List.set_cons_succ])
   refine wpAnyH_take (i:=2) (v:=?_) (by simp only [List.getElem?_toArray,List.getElem?_cons_succ,List.getElem?_cons_zero];rfl) (by kernel_rfl) (by kernel_rfl) (by kernel_rfl) (by exact fun _ _ _ h=>h) (Or.inl ⟨by rfl,?_⟩) (by assumption) ?_
   rotate_left
   ·(intro w hSw;(try dsimp only at hSw);go_simp;(try with_reducible rfl))
   (try simp only [Act.put,List.setIfInBounds_toArray,List.set_cons_zero,List.set_cons_succ])
   refine wpAnyH_take (i:=3) (v:=?_) (by simp only [List.getElem?_toArray,List.getElem?_cons_succ,List.getElem?_cons_zero];rfl) (by kernel_rfl) (by kernel_rfl) (by kernel_rfl) (by exact fun _ _ _ h=>h) (Or.inl ⟨by rfl,?_⟩) (by assumption) ?_
   rotate_left
   ·(intro w hSw;(try dsimp only at hSw);go_simp;(try with_reducible rfl))
   (try simp only [Act.put,List.setIfInBounds_toArray,List.set_cons_zero,List.set_cons_succ])
   refine wpAnyH_take (i:=4) (v:=?_) (by simp only [List.getElem?_toArray,List.getElem?_cons_succ,List.getElem?_cons_zero];rfl) (by kernel_rfl) (by kernel_rfl) (by kernel_rfl) (by exact fun _ _ _ h=>h) (Or.inl ⟨by rfl,?_⟩) (by assumption) ?_
   rotate_left
   ·(intro w hSw;(try dsimp only at hSw);go_simp;(try with_reducible rfl))
   (try simp only [Act.put,List.setIfInBounds_toArray,List.set_cons_zero,List.set_cons_succ])
   refine wpAnyH_ready (rs:=[5]) (by kernel_rfl) (by simp) (AllReadyH.cons (by simp only [List.getElem?_toArray,List.getElem?_cons_succ,List.getElem?_cons_zero];rfl) (fun K hK=>?_) AllReadyH.nil)
   go_simp
   refine hK.out _ _ ((HSK.out _ HST.out).trans HC1.out) (fun hHeld6=>?_)
   clear hK K
   (try simp only [Act.put,List.setIfInBounds_toArray,List.set_cons_zero,List.set_cons_succ])
   refine wpAnyH_take (i:=6) (v:=?_) (by simp only [List.getElem?_toArray,List.getElem?_cons_succ,List.getElem?_cons_zero];rfl) (by kernel_rfl) (by kernel_rfl) (by kernel_rfl) (by exact fun _ _ _ h=>h) (Or.inl ⟨by rfl,?_⟩) (by assumption) ?_
   rotate_left
   ·(intro w hSw;(try dsimp only at hSw);go_simp;(try with_reducible rfl))
   (try simp only [Act.put,List.setIfInBounds_toArray,List.set_cons_zero,List.set_cons_succ])
   refine wpAnyH_take (i:=7) (v:=?_) (by simp only [List.getElem?_toArray,List.getElem?_cons_succ,List.getElem?_cons_zero];rfl) (by kernel_rfl) (by kernel_rfl) (by kernel_rfl) (by exact fun _ _ _ h=>h) (Or.inl ⟨by rfl,?_⟩) (by assumption) ?_
   rotate_left
   ·(intro w hSw;(try dsimp only at hSw);go_simp;(try with_reducible rfl))
   (try simp only [Act.put,List.setIfInBounds_toArray,List.set_cons_zero,List.set_cons_succ])
   refine wpAnyH_done (by kernel_rfl) ?_ _
   go_wp2_with fail
   (try simp only [Exit.inBlock,Exit.then])
   refine bodyPost_ret (res_row2 rfl (ld_proof (row_drew (pset4 HP6.out))) rfl rfl rfl) rfl ?_
   exact .bad HG2.out rfl (((((HB6.out).setCell (Nat.le_refl _) _).setCell (Nat.le_refl _) _).setCell (Nat.le_refl _) _).setCell (Nat.le_refl _) _).drew
  |true =>
   obtain ⟨hR1,hL0⟩:=HR1.out q PM.v HO.out
   have HREL:=Lib.hid (show PuR R (!wh) g pb w3.heap.size q PM A c L w w6 from ⟨1,L.length,none,0,[],HR6.out,HB6.out,by rw [List.length_drop];omega,hL0,by rw [← HWH.out];exact hR1,by have:=unl_drop L 1;have:=HUL.out;simp only [List.length_nil];omega,HPA6.out,HS6.out⟩)
   clear hR1 hL0 HR0 HR1 HO HR6 HB6 HPA6 HP6 HS6
   go_upto_region 10 with fail
   go_wp2_with fail
   go_loopw [10,11,12] (fun _ _ _ wr=>PuR R (!wh) g pb w3.heap.size q PM A c L w wr) (fun _ _ _ wr=>L.length - atR g wr)
   case atStart=>exact HREL.out
   case round =>
    clear HREL
    obtain ⟨n,f,X,ca,nd,hrd,hbel,hf,hnl,hR,hsz0,hpa,hbs⟩:=hrel
    have HRD:=Lib.hid hrd
    have HPA:=Lib.hid hpa
    have HBL:=Lib.hid hbel
    have HAT:=Lib.hid (atR_at hrd)
    have hnd:nd.length<1024:=by omega
    obtain ⟨hge,hgn⟩:=parseF_get (f:=f) (n:=n) (nd:=nd.map (fun x:NodeM=>x.n)) (L:=L) (tb:=!wh) (by omega) (by rw [List.length_map];exact hnd)
    have HGE:=Lib.hid (show L.getD n []=endW→R=finR q PM.v (if L.drop (n+1)=[]∧(!wh)=false then (nd.map (fun x:NodeM=>x.n),0,0) else ([],n+2,3)) from fun h=>by rw [hR,hge h])
    have HGN:=Lib.hid (show L.getD n []≠endW→R=finR q PM.v (contF f (nd.map (fun x:NodeM=>x.n)) (!wh) (nodeR (L.getD n []) (L.drop (n+1)) (n+1))) from fun h=>by rw [hR,hgn h])
    have HTK:=Lib.hid (fun x ls1 n1 (h:nodeR (L.getD n []) (L.drop (n+1)) (n+1)=(some x,ls1,n1)) h1=>node_took h h1)
    have hll:=getD_len (n:=n) HLEN.out
    have HNX:=Lib.hid (rnext_any g A c L n wr HRD.out (by omega))
    have HNR:=Lib.hid (fun w' (hr:RdL w' g A c L (n+1))=>rrnode_any g A c L (n+1) (L.getD n []) w' hr (by omega) (by omega) HLEN.out hll)
    clear hrd hpa hbel hge hgn hR
    obtain ⟨NW,hNW⟩:∃ x,x=nodeR (L.getD n []) (L.drop (n+1)) (n+1):=⟨_,rfl⟩
    rw [← hNW] at HGN HTK HNR
    clear hNW
    generalize L.getD n []=l at *
    go_wp2_with fail
    refine HNX.out.mono ?_
    rintro e w7 ⟨rfl,hk7,hr7⟩
    have HB7:=Lib.hid (KpB.below_own HBL.out hk7 HG.out.2)
    have HR7:=Lib.hid hr7
    have HPA7:=Lib.hid (HPA.out.kpL hk7 HRD.out HPB.out.1 HG.out.1.symm)
    have HS7:=Lib.hid (Nat.le_trans hbs hk7.1)
    clear hk7 hr7 HNX HPA HBL hbs
    by_cases hle:l=endW
    ·have e9:(l == [101,110,100])=true:=by simpa using hle
     have HGX:=Lib.hid (HGE.out hle)
     clear hle HGE HGN HTK HNR HAT HRD
     obtain ⟨_,c1⟩:=cells2 HR7.out.row
     by_cases hlt:n+1<L.length
     ·have i1:((n+1:Nat):Int)<(L.length:Int):=by omega
      have i2:(n:Int)+1<(L.length:Int):=by omega
      have HG2:=Lib.hid (show R=(noProof,n+2,3) by
       rw [HGX.out,if_neg]
       ·rfl
       ·rintro ⟨h1,_⟩
        have:=List.drop_eq_nil_iff.1 h1
        omega)
      clear hlt HGX
      obtain ⟨r0,r1,r2,r3⟩:=cells4 HPA7.out.res
      have z0:=frz HPA7.out.res 0
      have z1:=frz HPA7.out.res 1
      have z2:=frz HPA7.out.res 2
      have z3:=frz HPA7.out.res 3
      obtain ⟨_,c1⟩:=cells2 HR7.out.row
      have HSK:=Lib.hid (show ∀ w',w'.heap[g]? = w7.heap[g]? → w'.cell? ⟨g,1,none⟩=w7.cell? ⟨g,1,none⟩ from fun w' hb=>World.cell?_of_block (w:=w7) (w':=w') (a:=⟨g,1,none⟩) hb)
      have HC1:=Lib.hid c1
      have hS0:=(HSK.out w7.drew rfl).trans HC1.out
      have HST:=Lib.hid ((((((KpB.refl w.heap.size w7).store 0 (.bool false)).store 1 (.slice none 0 0)).store 2 (.slice none 0 0)).store 3 (.slice none 0 0)).drew.2 g (lt_heap HR7.out.row) HG.out.1)
      go_upto_region 19 with fail
      refine wp_region_held_drew (S:=fun w'=>w'.cell? ⟨g,1,none⟩=some (.int .i64 ((n+1:Nat):Int))) (by kernel_rfl) hS0 (fun hHeld=>?_)
      refine wpAnyH_take (i:=0) (v:=?_) (by simp only [List.getElem?_toArray,List.getElem?_cons_zero];rfl) (by kernel_rfl) (by kernel_rfl) (by kernel_rfl) (by exact fun _ _ _ h=>h) (Or.inl ⟨by rfl,?_⟩) (by assumption) ?_
      rotate_left
      ·(intro w hSw;(try dsimp only at hSw);go_simp;(try with_reducible rfl))
      (try simp only [Act.put,List.setIfInBounds_toArray,List.set_cons_zero,List.set_cons_succ])
      refine wpAnyH_take (i:=1) (v:=?_) (by simp only [List.getElem?_toArray,List.getElem?_cons_succ,List.getElem?_cons_zero];rfl) (by kernel_rfl) (by kernel_rfl) (by kernel_rfl) (by exact fun _ _ _ h=>h) (Or.inl ⟨by rfl,?_⟩) (by assumption) ?_
      rotate_left
      ·(intro w hSw;(try dsimp only at hSw);go_simp;(try with_reducible rfl))
      (try simp only [Act.put,List.setIfInBounds_toArray,List.set_cons_zero,List.set_cons_succ])
      refine wpAnyH_take (i:=2) (v:=?_) (by simp only [List.getElem?_toArray,List.getElem?_cons_succ,List.getElem?_cons_zero];rfl) (by kernel_rfl) (by kernel_rfl) (by kernel_rfl) (by exact fun _ _ _ h=>h) (Or.inl ⟨by rfl,?_⟩) (by assumption) ?_
      rotate_left
      ·(intro w hSw;(try dsimp only at hSw);go_simp;(try with_reducible rfl))
      (try simp only [Act.put,List.setIfInBounds_toArray,List.set_cons_zero,List.set_cons_succ])
      refine wpAnyH_take (i:=3) (v:=?_) (by simp only [List.getElem?_toArray,List.getElem?_cons_succ,List.getElem?_cons_zero];rfl) (by kernel_rfl) (by kernel_rfl) (by kernel_rfl) (by exact fun _ _ _ h=>h) (Or.inl ⟨by rfl,?_⟩) (by assumption) ?_
      rotate_left
      ·(intro w hSw;(try dsimp only at hSw);go_simp;(try with_reducible rfl))
      (try simp only [Act.put,List.setIfInBounds_toArray,List.set_cons_zero,List.set_cons_succ])
      refine wpAnyH_take (i:=4) (v:=?_) (by simp only [List.getElem?_toArray,List.getElem?_cons_succ,List.getElem?_cons_zero];rfl) (by kernel_rfl) (by kernel_rfl) (by kernel_rfl) (by exact fun _ _ _ h=>h) (Or.inl ⟨by rfl,?_⟩) (by assumption) ?_
      rotate_left
      ·(intro w hSw;(try dsimp only at hSw);go_simp;(try with_reducible rfl))
      (try simp only [Act.put,List.setIfInBounds_toArray,List.set_cons_zero,List.set_cons_succ])
      refine wpAnyH_take (i:=5) (v:=?_) (by simp only [List.getElem?_toArray,List.getElem?_cons_succ,List.getElem?_cons_zero];rfl) (by kernel_rfl) (by kernel_rfl) (by kernel_rfl) (by exact fun _ _ _ h=>h) (Or.inl ⟨by rfl,?_⟩) (by assumption) ?_
      rotate_left
      ·(intro w hSw;(try dsimp only at hSw);go_simp;(try with_reducible rfl))
      (try simp only [Act.put,List.setIfInBounds_toArray,List.set_cons_zero,List.set_cons_succ])
      refine wpAnyH_ready (rs:=[6]) (by kernel_rfl) (by simp) (AllReadyH.cons (by simp only [List.getElem?_toArray,List.getElem?_cons_succ,List.getElem?_cons_zero];rfl) (fun K hK=>?_) AllReadyH.nil)
      go_simp
      refine hK.out _ _ ((HSK.out _ HST.out).trans HC1.out) (fun hHeld6=>?_)
      clear hK K
      (try simp only [Act.put,List.setIfInBounds_toArray,List.set_cons_zero,List.set_cons_succ])
      refine wpAnyH_take (i:=7) (v:=?_) (by simp only [List.getElem?_toArray,List.getElem?_cons_succ,List.getElem?_cons_zero];rfl) (by kernel_rfl) (by kernel_rfl) (by kernel_rfl) (by exact fun _ _ _ h=>h) (Or.inl ⟨by rfl,?_⟩) (by assumption) ?_
      rotate_left
      ·(intro w hSw;(try dsimp only at hSw);go_simp;(try with_reducible rfl))
      (try simp only [Act.put,List.setIfInBounds_toArray,List.set_cons_zero,List.set_cons_succ])
      refine wpAnyH_take (i:=8) (v:=?_) (by simp only [List.getElem?_toArray,List.getElem?_cons_succ,List.getElem?_cons_zero];rfl) (by kernel_rfl) (by kernel_rfl) (by kernel_rfl) (by exact fun _ _ _ h=>h) (Or.inl ⟨by rfl,?_⟩) (by assumption) ?_
      rotate_left
      ·(intro w hSw;(try dsimp only at hSw);go_simp;(try with_reducible rfl))
      (try simp only [Act.put,List.setIfInBounds_toArray,List.set_cons_zero,List.set_cons_succ])
      refine wpAnyH_done (by kernel_rfl) ?_ _
      go_wp2_with fail
      (try simp only [Exit.inBlock,Exit.then])
      refine bodyPost_ret (res_row2 rfl (ld_proof (row_drew (pset4 HPA7.out.res))) rfl rfl rfl) rfl ?_
      refine ParseE.bad (n:=n+2) (k:=IntKind.i64.wrap ((n:Int)+1+1)) HG2.out (wrap_two (by omega)).symm ?_
      exact (((((HB7.out).setCell (Nat.le_refl _) _).setCell (Nat.le_refl _) _).setCell (Nat.le_refl _) _).setCell (Nat.le_refl _) _).drew
     ·have i1:¬ ((n+1:Nat):Int)<(L.length:Int):=by omega
      have i2:¬ (n:Int)+1<(L.length:Int):=by omega
      have i3:¬ n+1<L.length:=hlt
      cases wh with
      |true =>
       have HG2:=Lib.hid (show R=(⟨q,PM.v,nd.map (fun x:NodeM=>x.n)⟩,0,0) by
        rw [HGX.out,if_pos ⟨List.drop_of_length_le (by omega),rfl⟩];rfl)
       clear HGX
       obtain ⟨a0,a1,a2,a3⟩:=cells4 HPA7.out.row
       obtain ⟨r0,r1,r2,r3⟩:=cells4 HPA7.out.res
       have z0:=frz HPA7.out.res 0
       have z1:=frz HPA7.out.res 1
       have z2:=frz HPA7.out.res 2
       have z3:=frz HPA7.out.res 3
       go_wp2_with fail
       (try simp only [Exit.inBlock,Exit.then])
       refine bodyPost_ret (res_row2 rfl (ld_proof (pset4 HPA7.out.res)) rfl rfl rfl) rfl ?_
       have k1:=((((KpB.refl w.heap.size w7).store 0 (.bool q)).store 1 (.slice PM.A PM.rs.length PM.ca)).store 2 (.slice PM.C PM.us.length PM.cc)).store 3 (.slice X nd.length ca)
       have ho:=HPA7.out.own.keptB k1 HPA7.out.res (by decide)
       refine ⟨⟨q,PM,X,ca,nd⟩,by rw [HG2.out];rfl,by rw [HG2.out];rfl,⟨(HPA7.out.plan.keptB k1 HPA7.out.res (by decide) (by decide) (by decide) (by decide)).at_,ho.cells,fun m hm=>((HPA7.out.each m hm).keptB k1 HPA7.out.res (by decide) (by decide)).at_,ho.cap⟩,KpB.below_own HB7.out k1 (Nat.le_refl _)⟩
      |false =>
       have HG2:=Lib.hid (show R=(noProof,n+2,3) by
        rw [HGX.out,if_neg]
        ·rfl
        ·rintro ⟨_,h2⟩;exact absurd h2 (by decide))
       clear HGX
       obtain ⟨r0,r1,r2,r3⟩:=cells4 HPA7.out.res
       have z0:=frz HPA7.out.res 0
       have z1:=frz HPA7.out.res 1
       have z2:=frz HPA7.out.res 2
       have z3:=frz HPA7.out.res 3
       obtain ⟨_,c1⟩:=cells2 HR7.out.row
       have HSK:=Lib.hid (show ∀ w',w'.heap[g]? = w7.heap[g]? → w'.cell? ⟨g,1,none⟩=w7.cell? ⟨g,1,none⟩ from fun w' hb=>World.cell?_of_block (w:=w7) (w':=w') (a:=⟨g,1,none⟩) hb)
       have HC1:=Lib.hid c1
       have hS0:=(HSK.out w7.drew rfl).trans HC1.out
       have HST:=Lib.hid ((((((KpB.refl w.heap.size w7).store 0 (.bool false)).store 1 (.slice none 0 0)).store 2 (.slice none 0 0)).store 3 (.slice none 0 0)).drew.2 g (lt_heap HR7.out.row) HG.out.1)
       go_upto_region 19 with fail
       refine wp_region_held_drew (S:=fun w'=>w'.cell? ⟨g,1,none⟩=some (.int .i64 ((n+1:Nat):Int))) (by kernel_rfl) hS0 (fun hHeld=>?_)
       refine wpAnyH_take (i:=0) (v:=?_) (by simp only [List.getElem?_toArray,List.getElem?_cons_zero];rfl) (by kernel_rfl) (by kernel_rfl) (by kernel_rfl) (by exact fun _ _ _ h=>h) (Or.inl ⟨by rfl,?_⟩) (by assumption) ?_
       rotate_left
       ·(intro w hSw;(try dsimp only at hSw);go_simp;(try with_reducible rfl))
       (try simp only [Act.put,List.setIfInBounds_toArray,List.set_cons_zero,List.set_cons_succ])
       refine wpAnyH_take (i:=1) (v:=?_) (by simp only [List.getElem?_toArray,List.getElem?_cons_succ,List.getElem?_cons_zero];rfl) (by kernel_rfl) (by kernel_rfl) (by kernel_rfl) (by exact fun _ _ _ h=>h) (Or.inl ⟨by rfl,?_⟩) (by assumption) ?_
       rotate_left
       ·(intro w hSw;(try dsimp only at hSw);go_simp;(try with_reducible rfl))
       (try simp only [Act.put,List.setIfInBounds_toArray,List.set_cons_zero,List.set_cons_succ])
       refine wpAnyH_take (i:=2) (v:=?_) (by simp only [List.getElem?_toArray,List.getElem?_cons_succ,List.getElem?_cons_zero];rfl) (by kernel_rfl) (by kernel_rfl) (by kernel_rfl) (by exact fun _ _ _ h=>h) (Or.inl ⟨by rfl,?_⟩) (by assumption) ?_
       rotate_left
       ·(intro w hSw;(try dsimp only at hSw);go_simp;(try with_reducible rfl))
       (try simp only [Act.put,List.setIfInBounds_toArray,List.set_cons_zero,List.set_cons_succ])
       refine wpAnyH_take (i:=3) (v:=?_) (by simp only [List.getElem?_toArray,List.getElem?_cons_succ,List.getElem?_cons_zero];rfl) (by kernel_rfl) (by kernel_rfl) (by kernel_rfl) (by exact fun _ _ _ h=>h) (Or.inl ⟨by rfl,?_⟩) (by assumption) ?_
       rotate_left
       ·(intro w hSw;(try dsimp only at hSw);go_simp;(try with_reducible rfl))
       (try simp only [Act.put,List.setIfInBounds_toArray,List.set_cons_zero,List.set_cons_succ])
       refine wpAnyH_take (i:=4) (v:=?_) (by simp only [List.getElem?_toArray,List.getElem?_cons_succ,List.getElem?_cons_zero];rfl) (by kernel_rfl) (by kernel_rfl) (by kernel_rfl) (by exact fun _ _ _ h=>h) (Or.inl ⟨by rfl,?_⟩) (by assumption) ?_
       rotate_left
       ·(intro w hSw;(try dsimp only at hSw);go_simp;(try with_reducible rfl))
       (try simp only [Act.put,List.setIfInBounds_toArray,List.set_cons_zero,List.set_cons_succ])
       refine wpAnyH_take (i:=5) (v:=?_) (by simp only [List.getElem?_toArray,List.getElem?_cons_succ,List.getElem?_cons_zero];rfl) (by kernel_rfl) (by kernel_rfl) (by kernel_rfl) (by exact fun _ _ _ h=>h) (Or.inl ⟨by rfl,?_⟩) (by assumption) ?_
       rotate_left
       ·(intro w hSw;(try dsimp only at hSw);go_simp;(try with_reducible rfl))
       (try simp only [Act.put,List.setIfInBounds_toArray,List.set_cons_zero,List.set_cons_succ])
       refine wpAnyH_ready (rs:=[6]) (by kernel_rfl) (by simp) (AllReadyH.cons (by simp only [List.getElem?_toArray,List.getElem?_cons_succ,List.getElem?_cons_zero];rfl) (fun K hK=>?_) AllReadyH.nil)
       go_simp
       refine hK.out _ _ ((HSK.out _ HST.out).trans HC1.out) (fun hHeld6=>?_)
       clear hK K
       (try simp only [Act.put,List.setIfInBounds_toArray,List.set_cons_zero,List.set_cons_succ])
       refine wpAnyH_take (i:=7) (v:=?_) (by simp only [List.getElem?_toArray,List.getElem?_cons_succ,List.getElem?_cons_zero];rfl) (by kernel_rfl) (by kernel_rfl) (by kernel_rfl) (by exact fun _ _ _ h=>h) (Or.inl ⟨by rfl,?_⟩) (by assumption) ?_
       rotate_left
       ·(intro w hSw;(try dsimp only at hSw);go_simp;(try with_reducible rfl))
       (try simp only [Act.put,List.setIfInBounds_toArray,List.set_cons_zero,List.set_cons_succ])
       refine wpAnyH_take (i:=8) (v:=?_) (by simp only [List.getElem?_toArray,List.getElem?_cons_succ,List.getElem?_cons_zero];rfl) (by kernel_rfl) (by kernel_rfl) (by kernel_rfl) (by exact fun _ _ _ h=>h) (Or.inl ⟨by rfl,?_⟩) (by assumption) ?_
       rotate_left
       ·(intro w hSw;(try dsimp only at hSw);go_simp;(try with_reducible rfl))
       (try simp only [Act.put,List.setIfInBounds_toArray,List.set_cons_zero,List.set_cons_succ])
       refine wpAnyH_done (by kernel_rfl) ?_ _
       go_wp2_with fail
       (try simp only [Exit.inBlock,Exit.then])
       refine bodyPost_ret (res_row2 rfl (ld_proof (row_drew (pset4 HPA7.out.res))) rfl rfl rfl) rfl ?_
       refine ParseE.bad (n:=n+2) (k:=IntKind.i64.wrap ((n:Int)+1+1)) HG2.out (wrap_two (by omega)).symm ?_
       exact (((((HB7.out).setCell (Nat.le_refl _) _).setCell (Nat.le_refl _) _).setCell (Nat.le_refl _) _).setCell (Nat.le_refl _) _).drew
    ·have e9:(l == [101,110,100])=false:=by simpa using hle
     have HGX:=Lib.hid (HGN.out hle)
     clear hle HGE HGN HRD
     have eN:¬ (1024:Int)≤(nd.length:Int):=by omega
     have eN2:¬ 1024≤nd.length:=by omega
     have eN3:decide (1024≤nd.length)=false:=decide_eq_false (by omega)
     have eN4:decide ((1024:Int)≤(nd.length:Int))=false:=decide_eq_false (by omega)
     obtain ⟨a0,a1,a2,a3⟩:=cells4 HPA7.out.row
     have HN7:=Lib.hid (HNR.out w7 HR7.out)
     obtain ⟨o1,ls1,n1⟩:=NW
     clear HNR
     go_wp2_with fail
     refine HN7.out.mono ?_
     rintro e w8 ⟨m,b,rfl,ho,hno,hrd,hdr,hkp⟩
     obtain ⟨mA,mca,mC,mcc,⟨leaf,kind,cuts,dual,ck,ca',cb,cn,yes,no⟩⟩:=m
     obtain ⟨n9,p9⟩:=new_at w8 (.cells #[.bool leaf,.int .i64 kind,.slice mA cuts.length mca,.slice mC dual.length mcc,.int .i64 ck,.int .i64 ca',.int .i64 cb,.int .i64 cn,.int .i64 yes,.int .i64 no] 45)
     have HB9:=Lib.hid (below_lift (KpB.below_own HB7.out hkp HG.out.2) n9)
     have HR9:=Lib.hid ((show RdL w8 g A c L n1 from hrd).below n9)
     have HPA9:=Lib.hid ((HPA7.out.kpL hkp HR7.out HPB.out.1 HG.out.1.symm).below n9)
     have HNO9:=Lib.hid (fun hb=>((hno hb).mono HS7.out).below n9)
     have HO:=Lib.hid (show o1=(if b then some (⟨leaf,kind,cuts,dual,ck,ca',cb,cn,yes,no⟩:NodeV) else none) from ho)
     have HDR:=Lib.hid (show ls1=L.drop n1 from hdr)
     have hbs9:=Nat.le_trans (Nat.le_trans HS7.out hkp.1) n9.size
     clear a0 a1 a2 a3 n9 ho hno hrd hdr hkp HN7 HB7 HR7 HPA7
     go_upto_region 15 with fail
     generalize w8.alloc (.cells #[.bool leaf,.int .i64 kind,.slice mA cuts.length mca,.slice mC dual.length mcc,.int .i64 ck,.int .i64 ca',.int .i64 cb,.int .i64 cn,.int .i64 yes,.int .i64 no] 45)=w9 at *
     generalize w8.heap.size=nb at *
     cases b with
     |false =>
      have HG2:=Lib.hid (show R=(noProof,n1,3) by
       rw [HGX.out,show o1=none from HO.out];rfl)
      obtain ⟨r0,r1,r2,r3⟩:=cells4 HPA9.out.res
      have z0:=frz HPA9.out.res 0
      have z1:=frz HPA9.out.res 1
      have z2:=frz HPA9.out.res 2
      have z3:=frz HPA9.out.res 3
      obtain ⟨_,c1⟩:=cells2 HR9.out.row
      have HSK:=Lib.hid (show ∀ w',w'.heap[g]? = w9.heap[g]? → w'.cell? ⟨g,1,none⟩=w9.cell? ⟨g,1,none⟩ from fun w' hb=>World.cell?_of_block (w:=w9) (w':=w') (a:=⟨g,1,none⟩) hb)
      have HC1:=Lib.hid c1
      have hS0:=(HSK.out w9.drew rfl).trans HC1.out
      have HST:=Lib.hid ((((((KpB.refl w.heap.size w9).store 0 (.bool false)).store 1 (.slice none 0 0)).store 2 (.slice none 0 0)).store 3 (.slice none 0 0)).drew.2 g (lt_heap HR9.out.row) HG.out.1)
      go_upto_region 16 with fail
      refine wp_region_held_drew (S:=fun w'=>w'.cell? ⟨g,1,none⟩=some (.int .i64 (n1:Int))) (by kernel_rfl) hS0 (fun hHeld=>?_)
      refine wpAnyH_take (i:=0) (v:=?_) (by simp only [List.getElem?_toArray,List.getElem?_cons_zero];rfl) (by kernel_rfl) (by kernel_rfl) (by kernel_rfl) (by exact fun _ _ _ h=>h) (Or.inl ⟨by rfl,?_⟩) (by assumption) ?_
      rotate_left
      ·(intro w hSw;(try dsimp only at hSw);go_simp;(try with_reducible rfl))
      (try simp only [Act.put,List.setIfInBounds_toArray,List.set_cons_zero,List.set_cons_succ])
      refine wpAnyH_take (i:=1) (v:=?_) (by simp only [List.getElem?_toArray,List.getElem?_cons_succ,List.getElem?_cons_zero];rfl) (by kernel_rfl) (by kernel_rfl) (by kernel_rfl) (by exact fun _ _ _ h=>h) (Or.inl ⟨by rfl,?_⟩) (by assumption) ?_
      rotate_left
      ·(intro w hSw;(try dsimp only at hSw);go_simp;(try with_reducible rfl))
      (try simp only [Act.put,List.setIfInBounds_toArray,List.set_cons_zero,List.set_cons_succ])
      refine wpAnyH_take (i:=2) (v:=?_) (by simp only [List.getElem?_toArray,List.getElem?_cons_succ,List.getElem?_cons_zero];rfl) (by kernel_rfl) (by kernel_rfl) (by kernel_rfl) (by exact fun _ _ _ h=>h) (Or.inl ⟨by rfl,?_⟩) (by assumption) ?_
      rotate_left
      ·(intro w hSw;(try dsimp only at hSw);go_simp;(try with_reducible rfl))
      (try simp only [Act.put,List.setIfInBounds_toArray,List.set_cons_zero,List.set_cons_succ])
      refine wpAnyH_take (i:=3) (v:=?_) (by simp only [List.getElem?_toArray,List.getElem?_cons_succ,List.getElem?_cons_zero];rfl) (by kernel_rfl) (by kernel_rfl) (by kernel_rfl) (by exact fun _ _ _ h=>h) (Or.inl ⟨by rfl,?_⟩) (by assumption) ?_
      rotate_left
      ·(intro w hSw;(try dsimp only at hSw);go_simp;(try with_reducible rfl))
      (try simp only [Act.put,List.setIfInBounds_toArray,List.set_cons_zero,List.set_cons_succ])
      refine wpAnyH_take (i:=4) (v:=?_) (by simp only [List.getElem?_toArray,List.getElem?_cons_succ,List.getElem?_cons_zero];rfl) (by kernel_rfl) (by kernel_rfl) (by kernel_rfl) (by exact fun _ _ _ h=>h) (Or.inl ⟨by rfl,?_⟩) (by assumption) ?_
      rotate_left
      ·(intro w hSw;(try dsimp only at hSw);go_simp;(try with_reducible rfl))
      (try simp only [Act.put,List.setIfInBounds_toArray,List.set_cons_zero,List.set_cons_succ])
      refine wpAnyH_ready (rs:=[5]) (by kernel_rfl) (by simp) (AllReadyH.cons (by simp only [List.getElem?_toArray,List.getElem?_cons_succ,List.getElem?_cons_zero];rfl) (fun K hK=>?_) AllReadyH.nil)
      go_simp
      refine hK.out _ _ ((HSK.out _ HST.out).trans HC1.out) (fun hHeld6=>?_)
      clear hK K
      (try simp only [Act.put,List.setIfInBounds_toArray,List.set_cons_zero,List.set_cons_succ])
      refine wpAnyH_take (i:=6) (v:=?_) (by simp only [List.getElem?_toArray,List.getElem?_cons_succ,List.getElem?_cons_zero];rfl) (by kernel_rfl) (by kernel_rfl) (by kernel_rfl) (by exact fun _ _ _ h=>h) (Or.inl ⟨by rfl,?_⟩) (by assumption) ?_
      rotate_left
      ·(intro w hSw;(try dsimp only at hSw);go_simp;(try with_reducible rfl))
      (try simp only [Act.put,List.setIfInBounds_toArray,List.set_cons_zero,List.set_cons_succ])
      refine wpAnyH_take (i:=7) (v:=?_) (by simp only [List.getElem?_toArray,List.getElem?_cons_succ,List.getElem?_cons_zero];rfl) (by kernel_rfl) (by kernel_rfl) (by kernel_rfl) (by exact fun _ _ _ h=>h) (Or.inl ⟨by rfl,?_⟩) (by assumption) ?_
      rotate_left
      ·(intro w hSw;(try dsimp only at hSw);go_simp;(try with_reducible rfl))
      (try simp only [Act.put,List.setIfInBounds_toArray,List.set_cons_zero,List.set_cons_succ])
      refine wpAnyH_done (by kernel_rfl) ?_ _
      go_wp2_with fail
      (try simp only [Exit.inBlock,Exit.then])
      refine bodyPost_ret (res_row2 rfl (ld_proof (row_drew (pset4 HPA9.out.res))) rfl rfl rfl) rfl ?_
      exact .bad HG2.out rfl (((((HB9.out).setCell (Nat.le_refl _) _).setCell (Nat.le_refl _) _).setCell (Nat.le_refl _) _).setCell (Nat.le_refl _) _).drew
     |true =>
      have HX1:=Lib.hid (show o1=some (⟨leaf,kind,cuts,dual,ck,ca',cb,cn,yes,no⟩:NodeV) from HO.out)
      have HT:=Lib.hid (HTK.out _ ls1 n1 (by rw [HX1.out]) HDR.out)
      have HGY:=Lib.hid (show R=finR q PM.v (parseF (f - 1) ((nd ++ [(⟨mA,mca,mC,mcc,⟨leaf,kind,cuts,dual,ck,ca',cb,cn,yes,no⟩⟩:NodeM)]).map (fun x:NodeM=>x.n)) (L.drop n1) (!wh) n1) by
       rw [HGX.out,HX1.out,HDR.out,List.map_append];rfl)
      clear HO HX1 HDR HGX HTK
      obtain ⟨y0,y1,y2,y3,y4,y5,y6,y7,y8,y9⟩:=cells10 p9
      obtain ⟨c0,c1,c2,c3⟩:=cells4 HPA9.out.row
      clear p9
      have HON:=Lib.hid (show ∀ u ∈ (#[.bool leaf,.int .i64 kind,.slice mA cuts.length mca,.slice mC dual.length mcc,.int .i64 ck,.int .i64 ca',.int .i64 cb,.int .i64 cn,.int .i64 yes,.int .i64 no]:Array Value).toList,u.oneCell'=true from by intro u hu;simp at hu;rcases hu with rfl | rfl | rfl | rfl | rfl | rfl | rfl | rfl | rfl | rfl <;> rfl)
      go_wp2_with (at_builtin;refine wp_appk el_pnode rfl _ _ rfl w3.heap.size _ _ _ (nd.flatMap NodeM.cells) w9 #[.bool leaf,.int .i64 kind,.slice mA cuts.length mca,.slice mC dual.length mcc,.int .i64 ck,.int .i64 ca',.int .i64 cb,.int .i64 cn,.int .i64 yes,.int .i64 no] rfl HPA9.out.own rfl rfl HON.out (by unfold maxLen;omega) (by omega) hbs9 ?_;intro A' c' w10 hown10 hb10 hk10;have p10:=hk10.row HPA9.out.row (HPA9.out.own.far HPA9.out.row (by decide));have f3:=frz p10 3;obtain ⟨e0,e1,e2,e3⟩:=cells4 p10)
      have hkb:=(KpB.refl pb w10).store 3 (.slice A' (nd.length+1) c')
      have hle2:(nd ++ [(⟨mA,mca,mC,mcc,⟨leaf,kind,cuts,dual,ck,ca',cb,cn,yes,no⟩⟩:NodeM)]).length=nd.length+1:=by simp
      have hxs:nd.flatMap NodeM.cells ++ (#[.bool leaf,.int .i64 kind,.slice mA cuts.length mca,.slice mC dual.length mcc,.int .i64 ck,.int .i64 ca',.int .i64 cb,.int .i64 cn,.int .i64 yes,.int .i64 no]:Array Value).toList=(nd ++ [(⟨mA,mca,mC,mcc,⟨leaf,kind,cuts,dual,ck,ca',cb,cn,yes,no⟩⟩:NodeM)]).flatMap NodeM.cells:=flat_snoc NodeM.cells nd ⟨mA,mca,mC,mcc,⟨leaf,kind,cuts,dual,ck,ca',cb,cn,yes,no⟩⟩
      rw [hxs] at hown10
      have hrd11:RdL (w10.setCell ⟨pb,3,none⟩ (.slice A' (nd.length+1) c')) g A c L n1:=HR9.out.base (hb10.setCell (p:=⟨pb,3,none⟩) HPB.out.2.2.1 _) HS3.out.1 HOLD.out
      have hb11:=(HB9.out.trans (hb10.mono HS3.out.2)).setCell (p:=⟨pb,3,none⟩) HPB.out.2.2.2 (.slice A' (nd.length+1) c')
      have hres11:=(Below.heap_setCell w10 ⟨pb,3,none⟩ (.slice A' (nd.length+1) c') _ HPB.out.2.1.symm).trans (hk10.row HPA9.out.res (HPA9.out.own.far HPA9.out.res (by decide)))
      have hms:L.length - atR g (w10.setCell ⟨pb,3,none⟩ (.slice A' (nd.length+1) c'))<L.length - atR g wr:=by
       rw [atR_at hrd11,HAT.out]
       obtain ⟨t1,t2,t3,_⟩:=HT.out
       omega
      have hrel11:PuR R (!wh) g pb w3.heap.size q PM A c L w (w10.setCell ⟨pb,3,none⟩ (.slice A' (nd.length+1) c')):=by
       obtain ⟨t1,t2,t3,t4,t5⟩:=HT.out
       refine ⟨n1,f - 1,A',c',nd ++ [⟨mA,mca,mC,mcc,⟨leaf,kind,cuts,dual,ck,ca',cb,cn,yes,no⟩⟩],hrd11,hb11,by omega,t3,HGY.out,by rw [hle2];omega,?_,?_⟩
       ·refine ⟨by rw [hle2];exact heap_put p10,hres11,(HPA9.out.plan.keptA hk10 HPA9.out.own (by decide) (by decide) (by decide) (by decide)).keptB hkb p10 (by decide) (by decide) (by decide) (by decide),by rw [hle2];exact hown10.keptB hkb p10 (by decide),fun m hm=>?_⟩
        rcases List.mem_append.1 hm with h | h
        ·exact ((HPA9.out.each m h).keptA hk10 HPA9.out.own (by decide) (by decide)).keptB hkb p10 (by decide) (by decide)
        ·rw [List.mem_singleton.1 h];exact ((HNO9.out rfl).keptA hk10 HPA9.out.own (by decide) (by decide)).keptB hkb p10 (by decide) (by decide)
       ·rw [World.size_setCell];exact Nat.le_trans hbs9 hb10.size
      all_goals first
       |exact ⟨hrel11,hms⟩
       |(go_roundw
         case rel=>exact hrel11
         case measure=>exact hms)
end Go.Proofs.YtljekdpgjaahjaaGreatDoor

/- prooftext's reader: first. -/
import Derived.Test.YtljekdpgjaahjaaGreatDoorPtNd
import Derived.Test.YtljekdpgjaahjaaGreatDoorG60
namespace Go.Proofs.YtljekdpgjaahjaaGreatDoor
open Go.RowKit Num Txt Pf
set_option linter.unusedVariables false
attribute [local go_sem] B_size B_get B_toList B_mk B_extract B_append
abbrev proofZ:Obj:=.cells #[.bool false,.slice none 0 0,.slice none 0 0,.slice none 0 0] 28
def FirstE (o:Option (Bool × PlanV)) (ls':List Str) (g n:Nat) (t:Str) (N:Nat) (w:World) (e:Ending) (w':World):Prop:=∃ (q:Bool) (P:PlanM) (b:Bool) (s':Str),e=.returned (.tuple #[.agg #[.bool q,.slice P.A P.rs.length P.ca,.slice P.C P.us.length P.cc,.slice none 0 0],.bool b])∧o=(if b then some (q,P.v) else none)∧PlanO w' w.heap.size P∧RdAt w' g s' (n+1)∧LinesOf s' ls' t∧s'.length≤N∧KpB g w w'
theorem FirstE.fin {o:Option (Bool × PlanV)} {ls':List Str} {g n rb N:Nat} {t s':Str} {w w5:World} {P:PlanM} {q b:Bool} {x0 x1 x2 x3:Value} (h1:o=(if b then some (q,P.v) else none)) (h2:PlanO w5 w.heap.size P) (hr:RdAt w5 g s' (n+1)) (hL:LinesOf s' ls' t) (hN:s'.length≤N) (hk:KpB g w w5) (hres:w5.heap[rb]? = some proofZ) (hrb:w.heap.size≤rb) (hne:g≠rb) :
  FirstE o ls' g n t N w (.returned (.tuple #[.agg #[.bool q,.slice P.A P.rs.length P.ca,.slice P.C P.us.length P.cc,.slice none 0 0],.bool b])) ((((w5.setCell ⟨rb,0,none⟩ x0).setCell ⟨rb,1,none⟩ x1).setCell ⟨rb,2,none⟩ x2).setCell ⟨rb,3,none⟩ x3):=by
 have k1:=((((KpB.refl rb w5).store 0 x0).store 1 x1).store 2 x2).store 3 x3
 have k2:=(((hk.out hrb 0 x0).out hrb 1 x1).out hrb 2 x2).out hrb 3 x3
 exact ⟨q,P,b,s',rfl,h1,h2.keptB k1 hres (by decide) (by decide) (by decide) (by decide),k1.row hr hne,hL,hN,k2⟩
theorem FirstE.drew {o:Option (Bool × PlanV)} {ls':List Str} {g n N:Nat} {t:Str} {w w':World} {e:Ending} (h:FirstE o ls' g n t N w e w'):FirstE o ls' g n t N w e w'.drew:=by
 obtain ⟨q,P,b,s',h1,h2,h3,h4,h5,h6,h7⟩:=h
 exact ⟨q,P,b,s',h1,h2,h3.below (Below.refl _ _).drew,row_drew h4,h5,h6,h7.drew⟩
theorem FirstE.none {o:Option (Bool × PlanV)} {ls':List Str} {g n rb N:Nat} {t s':Str} {w w5:World} {q:Bool} {x0 x1 x2 x3:Value} (h1:o=Option.none) (hr:RdAt w5 g s' (n+1)) (hL:LinesOf s' ls' t) (hN:s'.length≤N) (hk:KpB g w w5) (hres:w5.heap[rb]? = some proofZ) (hrb:w.heap.size≤rb) (hne:g≠rb) :
  FirstE o ls' g n t N w (.returned (.tuple #[.agg #[.bool q,.slice Option.none 0 0,.slice Option.none 0 0,.slice Option.none 0 0],.bool false])) ((((w5.setCell ⟨rb,0,Option.none⟩ x0).setCell ⟨rb,1,Option.none⟩ x1).setCell ⟨rb,2,Option.none⟩ x2).setCell ⟨rb,3,Option.none⟩ x3) :=
 .fin (P:=⟨Option.none,0,[],Option.none,0,[]⟩) (b:=false) h1 (PlanO.nil _ _) hr hL hN hk hres hrb hne
theorem headR_bad {l:Str} {okb:Bool} (hok:okb=(wordsE l == 0 && decide (0<(wordsL l).length))) :
  (okb=false→headR l=none)∧((wordsL l).length<2→headR l=none)∧(3<(wordsL l).length→headR l=none):=by
 unfold headR
 refine ⟨fun h=>?_,fun h=>?_,fun h=>?_⟩
 ·by_cases h1:wordsE l=0
  ·rw [if_pos h1]
   rw [hok,h1] at h
   have h3:¬ 0<(wordsL l).length:=by simpa using h
   have h4:wordsL l=[]:=List.length_eq_zero_iff.1 (by omega)
   rw [h4]
  ·rw [if_neg h1]
 ·by_cases h1:wordsE l=0
  ·rw [if_pos h1]
   match hw:wordsL l with
   |[]=>rfl
   |[_]=>rfl
   |_ :: _ :: _=>rw [hw] at h;simp only [List.length_cons] at h;omega
  ·rw [if_neg h1]
 ·by_cases h1:wordsE l=0
  ·rw [if_pos h1]
   match hw:wordsL l with
   |[]=>rfl
   |[_]=>rfl
   |[_,_]=>rw [hw] at h;exact absurd h (by simp)
   |[_,_,_]=>rw [hw] at h;exact absurd h (by simp)
   |_ :: _ :: _ :: _ :: _=>rfl
  ·rw [if_neg h1]
theorem headR_two {l a b:Str} (h:wordsE l=0) (hw:wordsL l=[a,b]):headR l=if a=proofW∧b=noneW then some (true,⟨[],[]⟩) else none:=by
 unfold headR;rw [if_pos h,hw]
theorem headR_three {l a b c:Str} (h:wordsE l=0) (hw:wordsL l=[a,b,c]):headR l=if a=proofW∧b=planW∧unqE c=0∧(planR (unqS c)).2.2=0∧planS (planR (unqS c)).1=unqS c then some (false,(planR (unqS c)).1) else none:=by
 unfold headR;rw [if_pos h,hw]
theorem headR_a {l a:Str} {ws:List Str} (hw:wordsL l=a :: ws) (ha:a≠proofW):headR l=none:=by
 unfold headR
 by_cases h1:wordsE l=0
 ·rw [if_pos h1,hw]
  match ws with
  |[]=>rfl
  |[_]=>exact if_neg fun h=>ha h.1
  |[_,_]=>exact if_neg fun h=>ha h.1
  |_ :: _ :: _ :: _=>rfl
 ·rw [if_neg h1]
theorem own3s {w:World} {Bs:Nat} {A:Option Addr} {c:Nat} {x y z:Str} (h:OwnS w Bs 9 A 3 c (strs [x,y,z])):∃ g,A=some ⟨g,0,none⟩∧Bs≤g∧g<w.heap.size∧3≤c∧w.cell? ⟨g,0,none⟩=some (.string (B x))∧w.cell? ⟨g,1,none⟩=some (.string (B y))∧w.cell? ⟨g,2,none⟩=some (.string (B z)):=by
 obtain ⟨g,hA,hg,hlt,hc,_⟩:=h.at_ (by omega)
 exact ⟨g,hA,hg,hlt,h.cap.1,by rw [hc 0 (by omega)];rfl,by rw [hc 1 (by omega)];rfl,by rw [hc 2 (by omega)];rfl⟩
theorem ownHs {w:World} {Bs n:Nat} {A:Option Addr} {c:Nat} {x:Str} {ws:List Str} (h:OwnS w Bs 9 A n c (strs (x :: ws))):∃ g,A=some ⟨g,0,none⟩∧Bs≤g∧g<w.heap.size∧n≤c∧w.cell? ⟨g,0,none⟩=some (.string (B x)):=by
 have h0:0<n:=by have:=h.len;rw [strs_length,List.length_cons] at this;omega
 obtain ⟨g,hA,hg,hlt,hc,_⟩:=h.at_ h0
 exact ⟨g,hA,hg,hlt,h.cap.1,by rw [hc 0 h0];rfl⟩
set_option maxHeartbeats 8000000 in
set_option maxRecDepth 100000 in
theorem first_nil (g:Nat) (s t:Str) (n:Nat) (w:World) (h:RdAt w g s n) (hL:LinesOf s [] t) (hs:s.length≤70000) (hn:n≤70000) (he:EnvP w) :
  Calls Tryz.prog 32 #[.pointer (some ⟨g,0,none⟩)] w (FirstE none [] g n t s.length w):=by
 obtain ⟨n1,p1⟩:=new_at w proofZ
 have hgl:=lt_heap h
 have HNX:=Lib.hid (next_nil g s t n (w.alloc proofZ) (h.below n1) hL (by omega) (by omega) (he.below n1))
 have HLS:=Lib.hid hL
 clear h hL he
 go_enter Tryz.func32,Tryz.ntmps32
 simp only [B_mk]
 go_upto_region 1 with fail
 generalize w.alloc proofZ=w1 at *
 go_wp2_with fail
 refine HNX.out.mono ?_
 rintro e w3 ⟨rfl,hk3,hr3⟩
 have HK3:=Lib.hid ((KpB.of_below n1).trans hk3)
 have HP3:=Lib.hid (hk3.row p1 (show w.heap.size≠g by omega))
 have HR3:=Lib.hid hr3
 clear n1 p1 hk3 hr3 HNX
 obtain ⟨r0,r1,r2,r3⟩:=cells4 HP3.out
 have z0:=frz HP3.out 0
 have z1:=frz HP3.out 1
 have z2:=frz HP3.out 2
 have z3:=frz HP3.out 3
 go_wp2_with fail
 (try simp only [Exit.inBlock,Exit.then])
 refine bodyPost_ret (res_row rfl (ld_proof (pset4 HP3.out)) rfl rfl) rfl ?_
 exact .none rfl HR3.out HLS.out (Nat.le_refl _) HK3.out HP3.out (Nat.le_refl _) (Nat.ne_of_lt hgl)
set_option maxHeartbeats 8000000 in
set_option maxRecDepth 100000 in
theorem first_cons (g:Nat) (s l t:Str) (ls:List Str) (n:Nat) (w:World) (h:RdAt w g s n) (hL:LinesOf s (l :: ls) t) (hs:s.length≤70000) (hn:n≤70000) (hu:∀ a b c,wordsL l=[a,b,c]→(unqS c).length≤6000) (he:EnvP w) :
  Calls Tryz.prog 32 #[.pointer (some ⟨g,0,none⟩)] w (FirstE (headR l) ls g n t s.length w):=by
 obtain ⟨n1,p1⟩:=new_at w proofZ
 have hgl:=lt_heap h
 obtain ⟨hse,_,hl2⟩:=hL.cons
 have hsl2:s.length=l.length+1+(unl ls ++ t).length:=by
  have:=congrArg List.length hse
  rw [List.length_append,List.length_cons] at this
  omega
 have HNX:=Lib.hid (next_cons g s l t ls n (w.alloc proofZ) (h.below n1) hL (by omega) (by omega) (he.below n1))
 have HE:=Lib.hid (fun w' (hk:KpB g w w')=>he.kp hk h)
 have HWL:=Lib.hid (wordsL_le l)
 have HL2:=Lib.hid hl2
 have HU:=Lib.hid hu
 generalize hok:(wordsE l == 0 && decide (0<(wordsL l).length))=okb at *
 have HBAD:=Lib.hid (headR_bad (l:=l) (okb:=okb) hok.symm)
 have HOK:=Lib.hid (show okb=true→wordsE l=0 from fun h=>by rw [h,Bool.and_eq_true,beq_iff_eq] at hok;exact hok.1)
 have HA:=Lib.hid (fun a ws=>@headR_a l a ws)
 have H2:=Lib.hid (fun a b h=>@headR_two l a b h)
 have H3:=Lib.hid (fun a b c h=>@headR_three l a b c h)
 clear hok h hL he hse hl2 hu
 generalize headR l=R at *
 generalize wordsL l=wl at *
 generalize wordsE l=we at *
 generalize unl ls ++ t=rs at *
 go_enter Tryz.func32,Tryz.ntmps32
 simp only [B_mk]
 go_upto_region 1 with fail
 generalize w.alloc proofZ=w1 at *
 go_wp2_with fail
 refine HNX.out.mono ?_
 rintro e w3 ⟨WA,wc,rfl,hown,hk3,hr3⟩
 have HK3:=Lib.hid ((KpB.of_below n1).trans hk3)
 have HP3:=Lib.hid (hk3.row p1 (show w.heap.size≠g by omega))
 have HR3:=Lib.hid hr3
 have HOW:=Lib.hid hown
 have hw13:=Nat.le_trans n1.size hk3.1
 have HPL:=Lib.hid (lt_heap p1)
 clear n1 p1 hk3 hr3 HNX hown
 have hll:wl.length≤70000:=by have:=HWL.out.1;omega
 by_cases hbad:okb=false∨wl.length<2
 ·have HG:=Lib.hid (show R=none by rcases hbad with h | h;exact HBAD.out.1 h;exact HBAD.out.2.1 h)
  have hcs:okb=false∨(okb=true∧wl.length<2):=by
   rcases hbad with h | h
   ·exact .inl h
   ·cases okb
    ·exact .inl rfl
    ·exact .inr ⟨rfl,h⟩
  clear hbad HBAD HOK HA H2 H3
  obtain ⟨r0,r1,r2,r3⟩:=cells4 HP3.out
  have z0:=frz HP3.out 0
  have z1:=frz HP3.out 1
  have z2:=frz HP3.out 2
  have z3:=frz HP3.out 3
  rcases hcs with rfl | ⟨rfl,e2⟩
  rotate_left
  ·have e3:(wl.length:Int)<2:=by omega
   go_wp2_with fail
   (try simp only [Exit.inBlock,Exit.then])
   refine bodyPost_ret (res_row rfl (ld_proof (pset4 HP3.out)) rfl rfl) rfl ?_
   obtain rfl:=HG.out
   exact .none rfl HR3.out HL2.out (by omega) HK3.out HP3.out (Nat.le_refl _) (Nat.ne_of_lt hgl)
  go_wp2_with fail
  (try simp only [Exit.inBlock,Exit.then])
  refine bodyPost_ret (res_row rfl (ld_proof (pset4 HP3.out)) rfl rfl) rfl ?_
  obtain rfl:=HG.out
  exact .none rfl HR3.out HL2.out (by omega) HK3.out HP3.out (Nat.le_refl _) (Nat.ne_of_lt hgl)
 ·have hok1:okb=true:=by cases okb;exact absurd (.inl rfl) hbad;rfl
  have hge:¬ wl.length<2:=fun h=>hbad (.inr h)
  have hge1:¬ (wl.length:Int)<2:=by omega
  subst hok1
  have HWE:=Lib.hid (HOK.out rfl)
  clear hbad HOK
  by_cases h2:wl.length=2
  ·obtain ⟨x,y,rfl⟩:∃ x y,wl=[x,y]:=by
    match wl,h2 with
    |[x,y],_=>exact ⟨x,y,rfl⟩
   obtain ⟨q4,rfl,hq4,hlt4,hcap4,x0,x1⟩:=own2s HOW.out
   have HH:=Lib.hid (H2.out x y HWE.out rfl)
   have HPZ:=Lib.hid (PlanO.nil w3 w.heap.size)
   obtain ⟨r0,r1,r2,r3⟩:=cells4 HP3.out
   have z0:=frz HP3.out 0
   have z1:=frz HP3.out 1
   have z2:=frz HP3.out 2
   have z3:=frz HP3.out 3
   clear HBAD HA H2 H3 h2 hge hge1
   by_cases hx:x=proofW
   ·have e2:(x == [112,114,111,111,102])=true:=by simpa using hx
    have HX:=Lib.hid hx
    clear hx
    have HSK:=Lib.hid (show ∀ w',w'.heap[q4]? = w3.heap[q4]? → w'.cell? ⟨q4,1,none⟩=some (.string (B y)) from fun w' hb=>(World.cell?_of_block (w:=w3) (w':=w') (a:=⟨q4,1,none⟩) hb).trans x1)
    have hS0:=HSK.out w3.drew rfl
    have hqn:q4≠w.heap.size:=by have:=HPL.out;omega
    have HST:=Lib.hid ((((((KpB.refl w.heap.size w3).store 0 (.bool true)).store 1 (.slice none 0 0)).store 2 (.slice none 0 0)).store 3 (.slice none 0 0)).drew.2 q4 hlt4 hqn)
    by_cases hy:y=noneW
    ·have e3:(y == [110,111,110,101])=true:=by simpa using hy
     have HG:=Lib.hid (show R=some (true,⟨[],[]⟩) by rw [HH.out,if_pos ⟨HX.out,hy⟩])
     clear hy HH
     go_upto_region 5 with fail
     refine wp_region_held_drew (S:=fun w'=>w'.cell? ⟨q4,1,none⟩=some (.string (B y))) (by kernel_rfl) hS0 (fun hHeld=>?_)
     refine wpAnyH_take (i:=0) (v:=?_) (by simp only [List.getElem?_toArray,List.getElem?_cons_zero];rfl) (by kernel_rfl) (by kernel_rfl) (by kernel_rfl) (by exact fun _ _ _ h=>h) (Or.inl ⟨by rfl,?_⟩) (by assumption) ?_
     rotate_left
     ·(intro w hSw;(try dsimp only at hSw);go_simp;(try with_reducible rfl))
     (try simp only [Act.put,List.setIfInBounds_toArray,List.set_cons_zero,List.set_cons_succ])
     refine wpAnyH_take (i:=1) (v:=?_) (by simp only [List.getElem?_toArray,List.getElem?_cons_succ,List.getElem?_cons_zero];rfl) (by kernel_rfl) (by kernel_rfl) (by kernel_rfl) (by exact fun _ _ _ h=>h) (Or.inl ⟨by rfl,?_⟩) (by assumption) ?_
     rotate_left
     ·(intro w hSw;(try dsimp only at hSw);go_simp;(try with_reducible rfl))
     (try simp only [Act.put,List.setIfInBounds_toArray,List.set_cons_zero,List.set_cons_succ])
     refine wpAnyH_take (i:=2) (v:=?_) (by simp only [List.getElem?_toArray,List.getElem?_cons_succ,List.getElem?_cons_zero];rfl) (by kernel_rfl) (by kernel_rfl) (by kernel_rfl) (by exact fun _ _ _ h=>h) (Or.inl ⟨by rfl,?_⟩) (by assumption) ?_
     rotate_left
     ·(intro w hSw;(try dsimp only at hSw);go_simp;(try with_reducible rfl))
     (try simp only [Act.put,List.setIfInBounds_toArray,List.set_cons_zero,List.set_cons_succ])
     refine wpAnyH_take (i:=3) (v:=?_) (by simp only [List.getElem?_toArray,List.getElem?_cons_succ,List.getElem?_cons_zero];rfl) (by kernel_rfl) (by kernel_rfl) (by kernel_rfl) (by exact fun _ _ _ h=>h) (Or.inl ⟨by rfl,?_⟩) (by assumption) ?_
     rotate_left
     ·(intro w hSw;(try dsimp only at hSw);go_simp;(try with_reducible rfl))
     (try simp only [Act.put,List.setIfInBounds_toArray,List.set_cons_zero,List.set_cons_succ])
     refine wpAnyH_take (i:=4) (v:=?_) (by simp only [List.getElem?_toArray,List.getElem?_cons_succ,List.getElem?_cons_zero];rfl) (by kernel_rfl) (by kernel_rfl) (by kernel_rfl) (by exact fun _ _ _ h=>h) (Or.inl ⟨by rfl,?_⟩) (by assumption) ?_
     rotate_left
     ·(intro w hSw;(try dsimp only at hSw);go_simp;(try with_reducible rfl))
     (try simp only [Act.put,List.setIfInBounds_toArray,List.set_cons_zero,List.set_cons_succ])
     refine wpAnyH_ready (rs:=[5]) (by kernel_rfl) (by simp) (AllReadyH.cons (by simp only [List.getElem?_toArray,List.getElem?_cons_succ,List.getElem?_cons_zero];rfl) (fun K hK=>?_) AllReadyH.nil)
     go_simp
     refine hK.out _ _ (HSK.out _ HST.out) (fun hHeld6=>?_)
     clear hK K
     (try simp only [Act.put,List.setIfInBounds_toArray,List.set_cons_zero,List.set_cons_succ])
     refine wpAnyH_take (i:=6) (v:=?_) (by simp only [List.getElem?_toArray,List.getElem?_cons_succ,List.getElem?_cons_zero];rfl) (by kernel_rfl) (by kernel_rfl) (by kernel_rfl) (by exact fun _ _ _ h=>h) (Or.inl ⟨by rfl,?_⟩) (by assumption) ?_
     rotate_left
     ·(intro w hSw;(try dsimp only at hSw);go_simp;(try with_reducible rfl))
     (try simp only [Act.put,List.setIfInBounds_toArray,List.set_cons_zero,List.set_cons_succ])
     refine wpAnyH_done (by kernel_rfl) ?_ _
     go_wp2_with fail
     (try simp only [Exit.inBlock,Exit.then])
     refine bodyPost_ret (res_row rfl (ld_proof (row_drew (pset4 HP3.out))) rfl rfl) rfl ?_
     obtain rfl:=HG.out
     refine FirstE.drew ?_
     exact .fin (P:=⟨none,0,[],none,0,[]⟩) (b:=true) rfl (PlanO.nil _ _) HR3.out HL2.out (by omega) HK3.out HP3.out (Nat.le_refl _) (Nat.ne_of_lt hgl)
    ·have e3:(y == [110,111,110,101])=false:=by simpa using hy
     have HG:=Lib.hid (show R=none by rw [HH.out,if_neg fun h=>hy h.2])
     clear hy HH
     go_upto_region 5 with fail
     refine wp_region_held_drew (S:=fun w'=>w'.cell? ⟨q4,1,none⟩=some (.string (B y))) (by kernel_rfl) hS0 (fun hHeld=>?_)
     refine wpAnyH_take (i:=0) (v:=?_) (by simp only [List.getElem?_toArray,List.getElem?_cons_zero];rfl) (by kernel_rfl) (by kernel_rfl) (by kernel_rfl) (by exact fun _ _ _ h=>h) (Or.inl ⟨by rfl,?_⟩) (by assumption) ?_
     rotate_left
     ·(intro w hSw;(try dsimp only at hSw);go_simp;(try with_reducible rfl))
     (try simp only [Act.put,List.setIfInBounds_toArray,List.set_cons_zero,List.set_cons_succ])
     refine wpAnyH_take (i:=1) (v:=?_) (by simp only [List.getElem?_toArray,List.getElem?_cons_succ,List.getElem?_cons_zero];rfl) (by kernel_rfl) (by kernel_rfl) (by kernel_rfl) (by exact fun _ _ _ h=>h) (Or.inl ⟨by rfl,?_⟩) (by assumption) ?_
     rotate_left
     ·(intro w hSw;(try dsimp only at hSw);go_simp;(try with_reducible rfl))
     (try simp only [Act.put,List.setIfInBounds_toArray,List.set_cons_zero,List.set_cons_succ])
     refine wpAnyH_take (i:=2) (v:=?_) (by simp only [List.getElem?_toArray,List.getElem?_cons_succ,List.getElem?_cons_zero];rfl) (by kernel_rfl) (by kernel_rfl) (by kernel_rfl) (by exact fun _ _ _ h=>h) (Or.inl ⟨by rfl,?_⟩) (by assumption) ?_
     rotate_left
     ·(intro w hSw;(try dsimp only at hSw);go_simp;(try with_reducible rfl))
     (try simp only [Act.put,List.setIfInBounds_toArray,List.set_cons_zero,List.set_cons_succ])
     refine wpAnyH_take (i:=3) (v:=?_) (by simp only [List.getElem?_toArray,List.getElem?_cons_succ,List.getElem?_cons_zero];rfl) (by kernel_rfl) (by kernel_rfl) (by kernel_rfl) (by exact fun _ _ _ h=>h) (Or.inl ⟨by rfl,?_⟩) (by assumption) ?_
     rotate_left
     ·(intro w hSw;(try dsimp only at hSw);go_simp;(try with_reducible rfl))
     (try simp only [Act.put,List.setIfInBounds_toArray,List.set_cons_zero,List.set_cons_succ])
     refine wpAnyH_take (i:=4) (v:=?_) (by simp only [List.getElem?_toArray,List.getElem?_cons_succ,List.getElem?_cons_zero];rfl) (by kernel_rfl) (by kernel_rfl) (by kernel_rfl) (by exact fun _ _ _ h=>h) (Or.inl ⟨by rfl,?_⟩) (by assumption) ?_
     rotate_left
     ·(intro w hSw;(try dsimp only at hSw);go_simp;(try with_reducible rfl))
     (try simp only [Act.put,List.setIfInBounds_toArray,List.set_cons_zero,List.set_cons_succ])
     refine wpAnyH_ready (rs:=[5]) (by kernel_rfl) (by simp) (AllReadyH.cons (by simp only [List.getElem?_toArray,List.getElem?_cons_succ,List.getElem?_cons_zero];rfl) (fun K hK=>?_) AllReadyH.nil)
     go_simp
     refine hK.out _ _ (HSK.out _ HST.out) (fun hHeld6=>?_)
     clear hK K
     (try simp only [Act.put,List.setIfInBounds_toArray,List.set_cons_zero,List.set_cons_succ])
     refine wpAnyH_take (i:=6) (v:=?_) (by simp only [List.getElem?_toArray,List.getElem?_cons_succ,List.getElem?_cons_zero];rfl) (by kernel_rfl) (by kernel_rfl) (by kernel_rfl) (by exact fun _ _ _ h=>h) (Or.inl ⟨by rfl,?_⟩) (by assumption) ?_
     rotate_left
     ·(intro w hSw;(try dsimp only at hSw);go_simp;(try with_reducible rfl))
     (try simp only [Act.put,List.setIfInBounds_toArray,List.set_cons_zero,List.set_cons_succ])
     refine wpAnyH_done (by kernel_rfl) ?_ _
     go_wp2_with fail
     (try simp only [Exit.inBlock,Exit.then])
     refine bodyPost_ret (res_row rfl (ld_proof (row_drew (pset4 HP3.out))) rfl rfl) rfl ?_
     obtain rfl:=HG.out
     refine FirstE.drew ?_
     exact .none rfl HR3.out HL2.out (by omega) HK3.out HP3.out (Nat.le_refl _) (Nat.ne_of_lt hgl)
   ·have e2:(x == [112,114,111,111,102])=false:=by simpa using hx
    have HG:=Lib.hid (show R=none by rw [HH.out,if_neg fun h=>hx h.1])
    clear hx HH
    go_wp2_with fail
    (try simp only [Exit.inBlock,Exit.then])
    refine bodyPost_ret (res_row rfl (ld_proof (pset4 HP3.out)) rfl rfl) rfl ?_
    obtain rfl:=HG.out
    exact .none rfl HR3.out HL2.out (by omega) HK3.out HP3.out (Nat.le_refl _) (Nat.ne_of_lt hgl)
  ·have h2i:((wl.length:Int) == 2)=false:=by rw [beq_eq_false_iff_ne];omega
   obtain ⟨x,ws',hwx⟩:∃ x ws',wl=x :: ws':=by
    match wl,hge with
    |x :: ws',_=>exact ⟨x,ws',rfl⟩
    |[],h=>exact absurd (by simp) h
   obtain ⟨r0,r1,r2,r3⟩:=cells4 HP3.out
   have z0:=frz HP3.out 0
   have z1:=frz HP3.out 1
   have z2:=frz HP3.out 2
   have z3:=frz HP3.out 3
   by_cases hx:x=proofW
   ·have e2:(x == [112,114,111,111,102])=true:=by simpa using hx
    have HX:=Lib.hid hx
    clear hx
    by_cases h3:3<wl.length
    ·have h3i:(3:Int)<(wl.length:Int):=by omega
     have HG:=Lib.hid (HBAD.out.2.2 h3)
     have hx0:∃ q4,WA=some ⟨q4,0,none⟩∧q4<w3.heap.size∧wl.length≤wc∧w3.cell? ⟨q4,0,none⟩=some (.string (B x)):=by
      have:=HOW.out
      rw [hwx] at this
      obtain ⟨q4,a1,a2,a3,a4,a5⟩:=ownHs this
      exact ⟨q4,a1,a3,by rw [hwx];exact a4,a5⟩
     obtain ⟨q4,rfl,hlt4,hcap4,x0⟩:=hx0
     clear HBAD HA H2 H3 h2 h3 hwx
     go_wp2_with fail
     (try simp only [Exit.inBlock,Exit.then])
     refine bodyPost_ret (res_row rfl (ld_proof (pset4 HP3.out)) rfl rfl) rfl ?_
     obtain rfl:=HG.out
     exact .none rfl HR3.out HL2.out (by omega) HK3.out HP3.out (Nat.le_refl _) (Nat.ne_of_lt hgl)
    ·obtain ⟨y,z,rfl⟩:∃ y z,wl=[x,y,z]:=by
      subst hwx
      match ws',h2,h3,hge with
      |[y,z],_,_,_=>exact ⟨y,z,rfl⟩
      |[],_,_,h=>exact absurd (by simp) h
      |[_],h,_,_=>exact absurd rfl h
      |_ :: _ :: _ :: _,_,h,_=>exact absurd (by simp only [List.length_cons];omega) h
     obtain ⟨q4,rfl,hq4,hlt4,hcap4,x0,x1,x2⟩:=own3s HOW.out
     have HH:=Lib.hid (H3.out x y z HWE.out rfl)
     have HUL:=Lib.hid (HU.out x y z rfl)
     have HZL:=Lib.hid (HWL.out.2 z (by simp))
     clear HBAD HA H2 H3 h2 h3 h2i hwx hge hge1 HU HOW
     by_cases hy:y=planW
     ·have e3:(y == [112,108,97,110])=true:=by simpa using hy
      have HY:=Lib.hid hy
      have HUQ:=Lib.hid (unquote_any z w3 (by have:=HZL.out;omega))
      clear hy
      by_cases hue:unqE z=0
      ·have e4:(unqE z != 0)=false:=by rw [hue];rfl
       have HH2:=Lib.hid (show R=if (planR (unqS z)).2.2=0∧planS (planR (unqS z)).1=unqS z then some (false,(planR (unqS z)).1) else none by
        rw [HH.out]
        by_cases h:(planR (unqS z)).2.2=0∧planS (planR (unqS z)).1=unqS z
        ·rw [if_pos ⟨HX.out,HY.out,hue,h⟩,if_pos h]
        ·rw [if_neg fun k=>h k.2.2.2,if_neg h])
       have HLE:=Lib.hid (planR_le (unqS z))
       clear HH hue
       generalize unqE z=ue at *
       generalize unqS z=us at *
       go_wp2_with fail
       refine HUQ.out.mono ?_
       rintro e w4 ⟨rfl,hb4⟩
       have HK4:=Lib.hid (HK3.out.below hb4)
       have HP4:=Lib.hid (row_keep HP3.out hb4)
       have HR4:=Lib.hid (HR3.out.below hb4)
       have HPP:=Lib.hid (pparse_any us w4 (by have:=HUL.out;omega) (HE.out w4 HK4.out))
       have hw14:=Nat.le_trans hw13 hb4.size
       clear hb4 HK3 HP3 HR3 HUQ r0 r1 r2 r3 z0 z1 z2 z3
       generalize hpr:planR us=pr at *
       have HPR:=Lib.hid hpr
       clear hpr
       go_wp2_with fail
       refine HPP.out.mono ?_
       rintro e w5 ⟨PM,rfl,hmv,hpo,hb5⟩
       obtain ⟨n6,p6⟩:=new_at w5 (.cells #[.slice PM.A PM.rs.length PM.ca,.slice PM.C PM.us.length PM.cc] 25)
       have hb6:=below_lift hb5 n6
       have HK6:=Lib.hid (HK4.out.below hb6)
       have HP6:=Lib.hid (row_keep HP4.out hb6)
       have HR6:=Lib.hid (HR4.out.below hb6)
       have HPO6:=Lib.hid (hpo.below n6)
       have HMV:=Lib.hid hmv
       have hw16:=Nat.le_trans hw14 hb5.size
       have HPN:=Lib.hid (show w5.heap.size≠w.heap.size by have:=lt_heap HP4.out;have:=hb5.size;omega)
       have hw46:w.heap.size≤w4.heap.size:=HK4.out.1
       clear hb5 hb6 n6 hpo hmv HPP HK4 HP4 HR4 hw14
       go_upto_region 12 with fail
       generalize w5.alloc (.cells #[.slice PM.A PM.rs.length PM.ca,.slice PM.C PM.us.length PM.cc] 25)=w6 at *
       generalize w5.heap.size=pb at *
       obtain ⟨y0,y1⟩:=cells2 p6
       have HP6R:=Lib.hid p6
       clear p6
       obtain ⟨r0,r1,r2,r3⟩:=cells4 HP6.out
       have z0:=frz HP6.out 0
       have z1:=frz HP6.out 1
       have z2:=frz HP6.out 2
       have z3:=frz HP6.out 3
       by_cases hee:pr.2.2=0
       ·have e5:(pr.2.2 == 0)=true:=by rw [hee];rfl
        have hml:PM.rs.length=pr.1.rous.length:=by rw [← HMV.out];exact (List.length_map _).symm
        have hmu:PM.us.length=pr.1.uns.length:=by rw [← HMV.out];rfl
        have HPT:=Lib.hid (fun w' (hb:Below w6.heap.size w6 w')=>pprint_any PM w' (HPO6.out.below hb).at_ (by have:=HLE.out.1;have:=HUL.out;omega) (by have:=HLE.out.2.2;have:=HUL.out;omega) (fun r hr=>by
         have h1:=HLE.out.2.1 r.r (by rw [← HMV.out];exact List.mem_map.2 ⟨r,hr,rfl⟩)
         have h2:=HUL.out
         omega) (HE.out w' (HK6.out.below hb)).1.1)
        have hmpv:planS PM.v=planS pr.1:=by rw [HMV.out]
        rw [hmpv] at HPT
        have HH3:=Lib.hid (show R=if planS pr.1=us then some (false,pr.1) else none by
         rw [HH2.out]
         by_cases h:planS pr.1=us
         ·rw [if_pos ⟨hee,h⟩,if_pos h]
         ·rw [if_neg fun k=>h k.2,if_neg h])
        have HSK:=Lib.hid (show ∀ w',w'.heap[pb]? = w6.heap[pb]? → w'.cell? ⟨pb,0,none⟩=some (.slice PM.A PM.rs.length PM.ca)∧w'.cell? ⟨pb,1,none⟩=some (.slice PM.C PM.us.length PM.cc) from fun w' hb=>⟨(World.cell?_of_block (w:=w6) (w':=w') (a:=⟨pb,0,none⟩) hb).trans y0,(World.cell?_of_block (w:=w6) (w':=w') (a:=⟨pb,1,none⟩) hb).trans y1⟩)
        have HLT:=Lib.hid (lt_heap HP6R.out)
        have hS0:=HSK.out w6.drew rfl
        have HPT0:=Lib.hid (HPT.out w6.drew (Below.refl _ _).drew)
        clear hml hmu hmpv HH2 HPT
        generalize planS pr.1=ps at *
        refine wp_region_held_drew (S:=fun w'=>w'.cell? ⟨pb,0,none⟩=some (.slice PM.A PM.rs.length PM.ca)∧w'.cell? ⟨pb,1,none⟩=some (.slice PM.C PM.us.length PM.cc)) (by kernel_rfl) hS0 (fun hHeld=>?_)
        refine wpAnyH_take (i:=0) (v:=?_) (by simp only [List.getElem?_toArray,List.getElem?_cons_zero];rfl) (by kernel_rfl) (by kernel_rfl) (by kernel_rfl) (by exact fun _ _ _ h=>h) (Or.inl ⟨by rfl,?_⟩) (by assumption) ?_
        rotate_left
        ·(intro w hSw;(try dsimp only at hSw);go_simp;(try with_reducible rfl))
        (try simp only [Act.put,List.setIfInBounds_toArray,List.set_cons_zero,List.set_cons_succ])
        refine wpAnyH_take (i:=1) (v:=?_) (by simp only [List.getElem?_toArray,List.getElem?_cons_succ,List.getElem?_cons_zero];rfl) (by kernel_rfl) (by kernel_rfl) (by kernel_rfl) (by exact fun _ _ _ h=>h) (Or.inl ⟨by rfl,?_⟩) (by assumption) ?_
        rotate_left
        ·(intro w hSw;(try dsimp only at hSw);go_simp;(try with_reducible rfl))
        (try simp only [Act.put,List.setIfInBounds_toArray,List.set_cons_zero,List.set_cons_succ])
        refine wpAnyH_take (i:=2) (v:=?_) (by simp only [List.getElem?_toArray,List.getElem?_cons_succ,List.getElem?_cons_zero];rfl) (by kernel_rfl) (by kernel_rfl) (by kernel_rfl) (by exact fun _ _ _ h=>h) (Or.inl ⟨by rfl,?_⟩) (by assumption) ?_
        rotate_left
        ·(intro w hSw;(try dsimp only at hSw);go_simp;(try with_reducible rfl))
        (try simp only [Act.put,List.setIfInBounds_toArray,List.set_cons_zero,List.set_cons_succ])
        refine wpAnyH_take (i:=3) (v:=?_) (by simp only [List.getElem?_toArray,List.getElem?_cons_succ,List.getElem?_cons_zero];rfl) (by kernel_rfl) (by kernel_rfl) (by kernel_rfl) (by exact fun _ _ _ h=>h) (Or.inl ⟨by rfl,?_⟩) (by assumption) ?_
        rotate_left
        ·(intro w hSw;(try dsimp only at hSw);go_simp;(try with_reducible rfl))
        (try simp only [Act.put,List.setIfInBounds_toArray,List.set_cons_zero,List.set_cons_succ])
        refine wpAnyH_take (i:=4) (v:=?_) (by simp only [List.getElem?_toArray,List.getElem?_cons_succ,List.getElem?_cons_zero];rfl) (by kernel_rfl) (by kernel_rfl) (by kernel_rfl) (by exact fun _ _ _ h=>h) (Or.inl ⟨by rfl,?_⟩) (by assumption) ?_
        rotate_left
        ·(intro w hSw;(try dsimp only at hSw);go_simp;(try with_reducible rfl))
        (try simp only [Act.put,List.setIfInBounds_toArray,List.set_cons_zero,List.set_cons_succ])
        refine wpAnyH_take (i:=5) (v:=?_) (by simp only [List.getElem?_toArray,List.getElem?_cons_succ,List.getElem?_cons_zero];rfl) (by kernel_rfl) (by kernel_rfl) (by kernel_rfl) (by exact fun _ _ _ h=>h) (Or.inl ⟨by rfl,?_⟩) (by assumption) ?_
        rotate_left
        ·(intro w hSw;(try dsimp only at hSw);go_simp;(try with_reducible rfl))
        (try simp only [Act.put,List.setIfInBounds_toArray,List.set_cons_zero,List.set_cons_succ])
        refine wpAnyH_take (i:=7) (v:=?_) (by simp only [List.getElem?_toArray,List.getElem?_cons_succ,List.getElem?_cons_zero];rfl) (by kernel_rfl) (by kernel_rfl) (by kernel_rfl) (by exact fun _ _ _ h=>h) (Or.inl ⟨by rfl,?_⟩) (by assumption) ?_
        rotate_left
        ·(intro w hSw;(try dsimp only at hSw);go_simp;(try with_reducible rfl))
        (try simp only [Act.put,List.setIfInBounds_toArray,List.set_cons_zero,List.set_cons_succ])
        refine wpAnyH_ready (rs:=[6]) (by kernel_rfl) (by simp) (AllReadyH.cons (by simp only [List.getElem?_toArray,List.getElem?_cons_succ,List.getElem?_cons_zero];rfl) (fun K hK=>?_) AllReadyH.nil)
        go_simp
        refine HPT0.out.mono ?_
        rintro e wy ⟨rfl,hby⟩
        have hb7:Below w6.heap.size w6 wy:=(Below.refl _ _).drew.trans hby
        refine hK.out _ _ (HSK.out wy (hb7.block _ HLT.out)) (fun hHeld2=>?_)
        clear hK K
        (try simp only [Act.put,List.setIfInBounds_toArray,List.set_cons_zero,List.set_cons_succ])
        have HK7:=Lib.hid (HK6.out.below hb7)
        have HP7:=Lib.hid (row_keep HP6.out hb7)
        have HR7:=Lib.hid (HR6.out.below hb7)
        have HPO7:=Lib.hid (HPO6.out.below hb7)
        have HSK7:=Lib.hid (hb7.block _ HLT.out)
        have HLT7:=Lib.hid (Nat.lt_of_lt_of_le HLT.out hb7.size)
        have HST:=Lib.hid ((((((KpB.refl w.heap.size wy).store 0 (.bool false)).store 1 (.slice PM.A PM.rs.length PM.ca)).store 2 (.slice PM.C PM.us.length PM.cc)).store 3 (.slice none 0 0)).2 pb HLT7.out HPN.out)
        clear hb7 hby HPT0 r0 r1 r2 r3 z0 z1 z2 z3
        obtain ⟨r0,r1,r2,r3⟩:=cells4 HP7.out
        have z0:=frz HP7.out 0
        have z1:=frz HP7.out 1
        have z2:=frz HP7.out 2
        have z3:=frz HP7.out 3
        by_cases hpp:ps=us
        ·have e6:(ps == us)=true:=by simpa using hpp
         have HG:=Lib.hid (show R=some (false,pr.1) by rw [HH3.out,if_pos hpp])
         clear hpp HH3
         refine wpAnyH_take (i:=8) (v:=?_) (by simp only [List.getElem?_toArray,List.getElem?_cons_succ,List.getElem?_cons_zero];rfl) (by kernel_rfl) (by kernel_rfl) (by kernel_rfl) (by exact fun _ _ _ h=>h) (Or.inl ⟨by rfl,?_⟩) (by assumption) ?_
         rotate_left
         ·(intro w hSw;(try dsimp only at hSw);go_simp;(try with_reducible rfl))
         (try simp only [Act.put,List.setIfInBounds_toArray,List.set_cons_zero,List.set_cons_succ])
         refine wpAnyH_take (i:=9) (v:=?_) (by simp only [List.getElem?_toArray,List.getElem?_cons_succ,List.getElem?_cons_zero];rfl) (by kernel_rfl) (by kernel_rfl) (by kernel_rfl) (by exact fun _ _ _ h=>h) (Or.inl ⟨by rfl,?_⟩) (by assumption) ?_
         rotate_left
         ·(intro w hSw;(try dsimp only at hSw);go_simp;(try with_reducible rfl))
         (try simp only [Act.put,List.setIfInBounds_toArray,List.set_cons_zero,List.set_cons_succ])
         refine wpAnyH_ready (rs:=[10]) (by kernel_rfl) (by simp) (AllReadyH.cons (by simp only [List.getElem?_toArray,List.getElem?_cons_succ,List.getElem?_cons_zero];rfl) (fun K hK=>?_) AllReadyH.nil)
         go_simp
         refine hK.out _ _ (HSK.out _ (HST.out.trans HSK7.out)) (fun hHeld6=>?_)
         clear hK K
         (try simp only [Act.put,List.setIfInBounds_toArray,List.set_cons_zero,List.set_cons_succ])
         refine wpAnyH_take (i:=11) (v:=?_) (by simp only [List.getElem?_toArray,List.getElem?_cons_succ,List.getElem?_cons_zero];rfl) (by kernel_rfl) (by kernel_rfl) (by kernel_rfl) (by exact fun _ _ _ h=>h) (Or.inl ⟨by rfl,?_⟩) (by assumption) ?_
         rotate_left
         ·(intro w hSw;(try dsimp only at hSw);go_simp;(try with_reducible rfl))
         (try simp only [Act.put,List.setIfInBounds_toArray,List.set_cons_zero,List.set_cons_succ])
         refine wpAnyH_done (by kernel_rfl) ?_ _
         go_wp2_with fail
         (try simp only [Exit.inBlock,Exit.then])
         refine bodyPost_ret (res_row rfl (ld_proof (pset4 HP7.out)) rfl rfl) rfl ?_
         exact .fin (P:=PM) (b:=true) (HG.out.trans (by rw [HMV.out];rfl)) (HPO7.out.mono (by omega)) HR7.out HL2.out (by omega) HK7.out HP7.out (Nat.le_refl _) (Nat.ne_of_lt hgl)
        ·have e6:(ps == us)=false:=by simpa using hpp
         have HG:=Lib.hid (show R=none by rw [HH3.out,if_neg hpp])
         clear hpp HH3
         refine wpAnyH_take (i:=8) (v:=?_) (by simp only [List.getElem?_toArray,List.getElem?_cons_succ,List.getElem?_cons_zero];rfl) (by kernel_rfl) (by kernel_rfl) (by kernel_rfl) (by exact fun _ _ _ h=>h) (Or.inl ⟨by rfl,?_⟩) (by assumption) ?_
         rotate_left
         ·(intro w hSw;(try dsimp only at hSw);go_simp;(try with_reducible rfl))
         (try simp only [Act.put,List.setIfInBounds_toArray,List.set_cons_zero,List.set_cons_succ])
         refine wpAnyH_take (i:=9) (v:=?_) (by simp only [List.getElem?_toArray,List.getElem?_cons_succ,List.getElem?_cons_zero];rfl) (by kernel_rfl) (by kernel_rfl) (by kernel_rfl) (by exact fun _ _ _ h=>h) (Or.inl ⟨by rfl,?_⟩) (by assumption) ?_
         rotate_left
         ·(intro w hSw;(try dsimp only at hSw);go_simp;(try with_reducible rfl))
         (try simp only [Act.put,List.setIfInBounds_toArray,List.set_cons_zero,List.set_cons_succ])
         refine wpAnyH_ready (rs:=[10]) (by kernel_rfl) (by simp) (AllReadyH.cons (by simp only [List.getElem?_toArray,List.getElem?_cons_succ,List.getElem?_cons_zero];rfl) (fun K hK=>?_) AllReadyH.nil)
         go_simp
         refine hK.out _ _ (HSK.out _ (HST.out.trans HSK7.out)) (fun hHeld6=>?_)
         clear hK K
         (try simp only [Act.put,List.setIfInBounds_toArray,List.set_cons_zero,List.set_cons_succ])
         refine wpAnyH_take (i:=11) (v:=?_) (by simp only [List.getElem?_toArray,List.getElem?_cons_succ,List.getElem?_cons_zero];rfl) (by kernel_rfl) (by kernel_rfl) (by kernel_rfl) (by exact fun _ _ _ h=>h) (Or.inl ⟨by rfl,?_⟩) (by assumption) ?_
         rotate_left
         ·(intro w hSw;(try dsimp only at hSw);go_simp;(try with_reducible rfl))
         (try simp only [Act.put,List.setIfInBounds_toArray,List.set_cons_zero,List.set_cons_succ])
         refine wpAnyH_done (by kernel_rfl) ?_ _
         go_wp2_with fail
         (try simp only [Exit.inBlock,Exit.then])
         refine bodyPost_ret (res_row rfl (ld_proof (pset4 HP7.out)) rfl rfl) rfl ?_
         exact .fin (P:=PM) (b:=false) HG.out (HPO7.out.mono (by omega)) HR7.out HL2.out (by omega) HK7.out HP7.out (Nat.le_refl _) (Nat.ne_of_lt hgl)
       ·have e5:(pr.2.2 == 0)=false:=by simpa using hee
        have HG:=Lib.hid (show R=none by rw [HH2.out,if_neg fun k=>hee k.1])
        clear hee HH2
        generalize pr.2.2=pe at *
        go_region
        all_goals
         go_wp2_with fail
         (try simp only [Exit.inBlock,Exit.then])
         refine bodyPost_ret (res_row rfl (ld_proof (row_drew (pset4 HP6.out))) rfl rfl) rfl ?_
         refine FirstE.drew ?_
         exact .fin (P:=PM) (b:=false) HG.out (HPO6.out.mono hw46) HR6.out HL2.out (by omega) HK6.out HP6.out (Nat.le_refl _) (Nat.ne_of_lt hgl)
      ·have e4:(unqE z != 0)=true:=by simpa using hue
       have HG:=Lib.hid (show R=none by rw [HH.out,if_neg fun k=>hue k.2.2.1])
       clear hue HH
       generalize unqE z=ue at *
       generalize unqS z=us at *
       go_wp2_with fail
       refine HUQ.out.mono ?_
       rintro e w4 ⟨rfl,hb4⟩
       have HK4:=Lib.hid (HK3.out.below hb4)
       have HP4:=Lib.hid (row_keep HP3.out hb4)
       have HR4:=Lib.hid (HR3.out.below hb4)
       clear hb4 HK3 HP3 HR3 HUQ r0 r1 r2 r3 z0 z1 z2 z3
       obtain ⟨r0,r1,r2,r3⟩:=cells4 HP4.out
       have z0:=frz HP4.out 0
       have z1:=frz HP4.out 1
       have z2:=frz HP4.out 2
       have z3:=frz HP4.out 3
       go_wp2_with fail
       (try simp only [Exit.inBlock,Exit.then])
       refine bodyPost_ret (res_row rfl (ld_proof (pset4 HP4.out)) rfl rfl) rfl ?_
       obtain rfl:=HG.out
       exact .none rfl HR4.out HL2.out (by omega) HK4.out HP4.out (Nat.le_refl _) (Nat.ne_of_lt hgl)
     ·have e3:(y == [112,108,97,110])=false:=by simpa using hy
      have HG:=Lib.hid (show R=none by rw [HH.out,if_neg fun h=>hy h.2.1])
      clear hy HH
      go_wp2_with fail
      (try simp only [Exit.inBlock,Exit.then])
      refine bodyPost_ret (res_row rfl (ld_proof (pset4 HP3.out)) rfl rfl) rfl ?_
      obtain rfl:=HG.out
      exact .none rfl HR3.out HL2.out (by omega) HK3.out HP3.out (Nat.le_refl _) (Nat.ne_of_lt hgl)
   ·have e2:(x == [112,114,111,111,102])=false:=by simpa using hx
    have HG:=Lib.hid (HA.out x ws' hwx hx)
    have hx0:∃ q4,WA=some ⟨q4,0,none⟩∧q4<w3.heap.size∧wl.length≤wc∧w3.cell? ⟨q4,0,none⟩=some (.string (B x)):=by
     have:=HOW.out
     rw [hwx] at this
     obtain ⟨q4,a1,a2,a3,a4,a5⟩:=ownHs this
     exact ⟨q4,a1,a3,by rw [hwx];exact a4,a5⟩
    obtain ⟨q4,rfl,hlt4,hcap4,x0⟩:=hx0
    clear HBAD HA H2 H3 h2 hwx hx
    go_wp2_with fail
    (try simp only [Exit.inBlock,Exit.then])
    refine bodyPost_ret (res_row rfl (ld_proof (pset4 HP3.out)) rfl rfl) rfl ?_
    obtain rfl:=HG.out
    exact .none rfl HR3.out HL2.out (by omega) HK3.out HP3.out (Nat.le_refl _) (Nat.ne_of_lt hgl)
end Go.Proofs.YtljekdpgjaahjaaGreatDoor

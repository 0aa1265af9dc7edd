/- prooftext's reader: node, first. -/
import Derived.Test.YtljekdpgjaahjaaGreatDoorPtLf
namespace Go.Proofs.YtljekdpgjaahjaaGreatDoor
open Go.RowKit Num Txt Pf
set_option linter.unusedVariables false
attribute [local go_sem] B_size B_get B_toList B_mk B_extract B_append
noncomputable def nodeW_ (ws:List Str) (ls:List Str) (n:Nat):Option NodeV × List Str × Nat:=match numsR ws leafW 3 with
 |some [k,a,b]=>leafA k a b ls n
 |_=>match numsR ws nodeW 6 with
  |some [k,a,b,c,y,z]=>(some ⟨false,0,[],[],k,a,b,c,y,z⟩,ls,n)
  |_=>(none,ls,n)
theorem nodeR_w {l:Str} {ls:List Str} {n:Nat} (h:wordsE l=0):nodeR l ls n=nodeW_ (wordsL l) ls n:=by
 have e:∀ word many,lineN l word many=numsR (wordsL l) word many:=fun word many=>by unfold lineN;rw [if_pos h]
 unfold nodeR nodeW_
 rw [e,e]
 rfl
theorem nodeR_no {l:Str} {ls:List Str} {n:Nat} (h:wordsE l≠0):nodeR l ls n=(none,ls,n):=by
 have e:∀ word many,lineN l word many=none:=fun word many=>by unfold lineN;rw [if_neg h]
 unfold nodeR
 rw [e,e]
theorem KpB.drew {w w1:World} {g:Nat} (h:KpB g w w1):KpB g w w1.drew:=⟨h.1,h.2,h.strm⟩
theorem row_drew {w:World} {g:Nat} {o:Obj} (h:w.heap[g]? = some o):w.drew.heap[g]? = some o:=h
theorem NodeE.drew {o:Option NodeV × List Str × Nat} {g N:Nat} {t:Str} {w w':World} {e:Ending} (h:NodeE o g t N w e w'):NodeE o g t N w e w'.drew:=by
 obtain ⟨m,b,s',h1,h2,h3,h4,h5,h6,h7⟩:=h
 exact ⟨m,b,s',h1,h2,fun hb=>(h3 hb).below (Below.refl _ _).drew,row_drew h4,h5,h6,h7.drew⟩
theorem own6 {w:World} {Bs:Nat} {A:Option Addr} {c:Nat} {x y z u v r:Int} (h:OwnS w Bs 3 A 6 c (ints [x,y,z,u,v,r])):∃ g,A=some ⟨g,0,none⟩∧Bs≤g∧g<w.heap.size∧6≤c∧w.cell? ⟨g,0,none⟩=some (.int .i64 x)∧w.cell? ⟨g,1,none⟩=some (.int .i64 y)∧w.cell? ⟨g,2,none⟩=some (.int .i64 z)∧w.cell? ⟨g,3,none⟩=some (.int .i64 u)∧w.cell? ⟨g,4,none⟩=some (.int .i64 v)∧w.cell? ⟨g,5,none⟩=some (.int .i64 r):=by
 obtain ⟨g,hA,hg,hlt,hc,_⟩:=h.at_ (by omega)
 exact ⟨g,hA,hg,hlt,h.cap.1,by rw [hc 0 (by omega)];rfl,by rw [hc 1 (by omega)];rfl,by rw [hc 2 (by omega)];rfl,by rw [hc 3 (by omega)];rfl,by rw [hc 4 (by omega)];rfl,by rw [hc 5 (by omega)];rfl⟩
set_option maxHeartbeats 8000000 in
set_option maxRecDepth 100000 in
theorem node_any (g:Nat) (s t:Str) (ls:List Str) (n:Nat) (ws:List Str) (A:Option Addr) (c:Nat) (w:World) (h:RdAt w g s n) (hL:LinesOf s ls t) (hs:s.length≤70000) (hn:n≤70000) (hll:ls.length≤70000) (hc:Cells w A (strs ws)) (hcn:ws.length≤c∧c≤maxLen) (hl:∀ x ∈ ws,x.length≤1000000) (he:EnvP w) :
  Calls Tryz.prog 35 #[.pointer (some ⟨g,0,none⟩),.slice A ws.length c] w (NodeE (nodeW_ ws ls n) g t s.length w):=by
 obtain ⟨n1,p1⟩:=new_at w nodeZ
 have hgl:=lt_heap h
 have hsz:(w.alloc nodeZ).heap.size=w.heap.size+1:=Array.size_push ..
 have HN1:=Lib.hid (pnumbers_any ws A c leafW 3 (w.alloc nodeZ) (hc.below n1) hcn hl ⟨by decide,by decide⟩ (he.below n1).2)
 have HN2:=Lib.hid (fun w' (hb:Below w.heap.size w w')=>pnumbers_any ws A c nodeW 6 w' (hc.below hb) hcn hl ⟨by decide,by decide⟩ (he.below hb).2)
 have HRD:=Lib.hid (show ∀ w',Below w.heap.size w w'→RdAt w' g s n from fun w' hb=>h.below hb)
 have HE:=Lib.hid (fun w' (hb:Below w.heap.size w w')=>he.below hb)
 have HLS:=Lib.hid hL
 have hW:nodeW_ ws ls n=(match numsR ws leafW 3 with
  |some [k,a,b]=>leafA k a b ls n
  |_=>match numsR ws nodeW 6 with
   |some [k,a,b,c,y,z]=>(some ⟨false,0,[],[],k,a,b,c,y,z⟩,ls,n)
   |_=>(none,ls,n)):=rfl
 have HL1:=Lib.hid (fun ks (h:numsR ws leafW 3=some ks)=>nums_len h)
 have HL6:=Lib.hid (fun ks (h:numsR ws nodeW 6=some ks)=>nums_len h)
 have HW:=Lib.hid hW
 generalize nodeW_ ws ls n=R at *
 generalize numsR ws leafW 3=o1 at *
 generalize numsR ws nodeW 6=o2 at *
 clear h hL hc hl he hW
 go_enter Tryz.func35,Tryz.ntmps35
 simp only [B_mk]
 go_upto_region 1 with fail
 generalize w.alloc nodeZ=w1 at *
 have HB1:=Lib.hid n1
 have HP1:=Lib.hid p1
 clear n1 p1
 go_wp2_with fail
 refine HN1.out.mono ?_
 rintro e w2 ⟨A1,c1,ks,b,rfl,ho,hown,hb2⟩
 have HB2:=Lib.hid (below_lift HB1.out hb2)
 have HP2:=Lib.hid (row_keep HP1.out hb2)
 clear hb2 HN1 HB1 HP1
 cases b with
 |true =>
  obtain ⟨hk3,hkf⟩:=HL1.out ks ho
  obtain ⟨x,y,z,rfl⟩:=three_of hk3
  have hRR:=HW.out
  rw [ho] at hRR
  change R=leafA x y z ls n at hRR
  have HLF:=Lib.hid (leaf_any g s t ls n x y z A1 c1 w1.heap.size w2 (HRD.out w2 HB2.out) HLS.out hs hn hll hown (by omega) (hkf x (by simp)) (HE.out w2 HB2.out))
  rw [← hRR] at HLF
  clear hRR hk3 hkf ho HW HL1 HL6 hown
  go_wp2_with fail
  refine HLF.out.mono ?_
  rintro e w3 ⟨m,b,s',rfl,ho,hno,hrd,hls,hsl,hkp⟩
  have HP3:=Lib.hid (hkp.row HP2.out (show w.heap.size≠g by omega))
  have HNO:=Lib.hid hno
  have HO:=Lib.hid ho
  have HR3:=Lib.hid hrd
  have HL3:=Lib.hid hls
  have HK3:=Lib.hid ((KpB.of_below HB2.out).trans hkp)
  have HB2S:=Lib.hid HB2.out.size
  clear hno ho hrd hls hkp HLF HP2 HB2
  obtain ⟨mA,mca,mC,mcc,⟨leaf,kind,cuts,dual,ck,ca',cb,cn,yes,no⟩⟩:=m
  obtain ⟨r0,r1,r2,r3,r4,r5,r6,r7,r8,r9⟩:=cells10 HP3.out
  have z:=frz HP3.out
  have z0:=z 0
  have z1:=z 1
  have z2:=z 2
  have z3:=z 3
  have z4:=z 4
  have z5:=z 5
  have z6:=z 6
  have z7:=z 7
  have z8:=z 8
  have z9:=z 9
  clear z
  go_wp2_with fail
  (try simp only [Exit.inBlock,Exit.then])
  refine bodyPost_ret (res_row rfl (ld_node (pset10 HP3.out)) rfl rfl) rfl ?_
  exact .fin (s':=s') (m:=⟨mA,mca,mC,mcc,⟨leaf,kind,cuts,dual,ck,ca',cb,cn,yes,no⟩⟩) (b:=b) HO.out (fun hb=>(HNO.out hb).mono HB2S.out) HR3.out HL3.out hsl HK3.out HP3.out (Nat.le_refl _) (Nat.ne_of_lt hgl)
 |false =>
  have hRR:=HW.out
  rw [ho] at hRR
  change R=(match (generalizing:=false) o2 with
   |some [k,a,b,c,y,z]=>(some ⟨false,0,[],[],k,a,b,c,y,z⟩,ls,n)
   |_=>(none,ls,n)) at hRR
  have HW2:=Lib.hid hRR
  have HNN:=Lib.hid (HN2.out w2 HB2.out)
  clear hRR ho HW HL1 hown HN2
  go_wp2_with fail
  refine HNN.out.mono ?_
  rintro e w3 ⟨A2,c2,ks2,b,rfl,ho,hown,hb3⟩
  have HB3:=Lib.hid (below_lift HB2.out hb3)
  have HP3:=Lib.hid (row_keep HP2.out hb3)
  have hszz:=HB2.out.size
  have HPL:=Lib.hid (lt_heap HP2.out)
  clear hb3 HNN HB2 HP2
  obtain ⟨r0,r1,r2,r3,r4,r5,r6,r7,r8,r9⟩:=cells10 HP3.out
  have z:=frz HP3.out
  have z0:=z 0
  have z1:=z 1
  have z2:=z 2
  have z3:=z 3
  have z4:=z 4
  have z5:=z 5
  have z6:=z 6
  have z7:=z 7
  have z8:=z 8
  have z9:=z 9
  clear z
  cases b with
  |true =>
   obtain ⟨hk6,hkf⟩:=HL6.out ks2 ho
   obtain ⟨x,y,z,u,v,r,rfl⟩:=six_of hk6
   have HG:=Lib.hid (show R=(some ⟨false,0,[],[],x,y,z,u,v,r⟩,ls,n) by rw [HW2.out,ho];rfl)
   have HKF:=Lib.hid hkf
   obtain ⟨q4,rfl,hq4,hlt4,hcap4,x0,x1,x2,x3,x4,x5⟩:=own6 hown
   have HSK:=Lib.hid (show ∀ w',w'.heap[q4]? = w3.heap[q4]? → w'.cell? ⟨q4,0,none⟩=some (.int .i64 x)∧w'.cell? ⟨q4,1,none⟩=some (.int .i64 y)∧w'.cell? ⟨q4,2,none⟩=some (.int .i64 z)∧w'.cell? ⟨q4,3,none⟩=some (.int .i64 u)∧w'.cell? ⟨q4,4,none⟩=some (.int .i64 v)∧w'.cell? ⟨q4,5,none⟩=some (.int .i64 r) from fun w' hb=>⟨(World.cell?_of_block (w:=w3) (w':=w') (a:=⟨q4,0,none⟩) hb).trans x0,(World.cell?_of_block (w:=w3) (w':=w') (a:=⟨q4,1,none⟩) hb).trans x1,(World.cell?_of_block (w:=w3) (w':=w') (a:=⟨q4,2,none⟩) hb).trans x2,(World.cell?_of_block (w:=w3) (w':=w') (a:=⟨q4,3,none⟩) hb).trans x3,(World.cell?_of_block (w:=w3) (w':=w') (a:=⟨q4,4,none⟩) hb).trans x4,(World.cell?_of_block (w:=w3) (w':=w') (a:=⟨q4,5,none⟩) hb).trans x5⟩)
   have hS0:=HSK.out w3.drew rfl
   have hqn:q4≠w.heap.size:=by have:=HPL.out;omega
   have HST:=Lib.hid ((((((((((((KpB.refl w.heap.size w3).store 0 (.bool false)).store 1 (.int .i64 0)).store 2 (.slice none 0 0)).store 3 (.slice none 0 0)).store 4 (.int .i64 x)).store 5 (.int .i64 y)).store 6 (.int .i64 z)).store 7 (.int .i64 u)).store 8 (.int .i64 v)).store 9 (.int .i64 r)).drew.2 q4 hlt4 hqn)
   clear hk6 hkf ho hown HL6 HW2
   go_upto_region 7 with fail
   refine wp_region_held_drew (S:=fun w'=>w'.cell? ⟨q4,0,none⟩=some (.int .i64 x)∧w'.cell? ⟨q4,1,none⟩=some (.int .i64 y)∧w'.cell? ⟨q4,2,none⟩=some (.int .i64 z)∧w'.cell? ⟨q4,3,none⟩=some (.int .i64 u)∧w'.cell? ⟨q4,4,none⟩=some (.int .i64 v)∧w'.cell? ⟨q4,5,none⟩=some (.int .i64 r)) (by kernel_rfl) hS0 (fun hHeld=>?_)
   refine wpAnyH_take (i:=0) (v:=?_) (by simp only [List.getElem?_toArray,List.getElem?_cons_zero];rfl) (by kernel_rfl) (by kernel_rfl) (by kernel_rfl) (by exact fun _ _ _ h=>h) (Or.inl ⟨by rfl,?_⟩) (by assumption) ?_
   rotate_left
   ·(intro w hSw;(try dsimp only at hSw);go_simp;(try with_reducible rfl))
   (try simp only [Act.put,List.setIfInBounds_toArray,List.set_cons_zero,List.set_cons_succ])
   refine wpAnyH_take (i:=1) (v:=?_) (by simp only [List.getElem?_toArray,List.getElem?_cons_succ,List.getElem?_cons_zero];rfl) (by kernel_rfl) (by kernel_rfl) (by kernel_rfl) (by exact fun _ _ _ h=>h) (Or.inl ⟨by rfl,?_⟩) (by assumption) ?_
   rotate_left
   ·(intro w hSw;(try dsimp only at hSw);go_simp;(try with_reducible rfl))
   (try simp only [Act.put,List.setIfInBounds_toArray,List.set_cons_zero,List.set_cons_succ])
   refine wpAnyH_take (i:=2) (v:=?_) (by simp only [List.getElem?_toArray,List.getElem?_cons_succ,List.getElem?_cons_zero];rfl) (by kernel_rfl) (by kernel_rfl) (by kernel_rfl) (by exact fun _ _ _ h=>h) (Or.inl ⟨by rfl,?_⟩) (by assumption) ?_
   rotate_left
   ·(intro w hSw;(try dsimp only at hSw);go_simp;(try with_reducible rfl))
   (try simp only [Act.put,List.setIfInBounds_toArray,List.set_cons_zero,List.set_cons_succ])
   refine wpAnyH_take (i:=3) (v:=?_) (by simp only [List.getElem?_toArray,List.getElem?_cons_succ,List.getElem?_cons_zero];rfl) (by kernel_rfl) (by kernel_rfl) (by kernel_rfl) (by exact fun _ _ _ h=>h) (Or.inl ⟨by rfl,?_⟩) (by assumption) ?_
   rotate_left
   ·(intro w hSw;(try dsimp only at hSw);go_simp;(try with_reducible rfl))
   (try simp only [Act.put,List.setIfInBounds_toArray,List.set_cons_zero,List.set_cons_succ])
   refine wpAnyH_take (i:=4) (v:=?_) (by simp only [List.getElem?_toArray,List.getElem?_cons_succ,List.getElem?_cons_zero];rfl) (by kernel_rfl) (by kernel_rfl) (by kernel_rfl) (by exact fun _ _ _ h=>h) (Or.inl ⟨by rfl,?_⟩) (by assumption) ?_
   rotate_left
   ·(intro w hSw;(try dsimp only at hSw);go_simp;(try with_reducible rfl))
   (try simp only [Act.put,List.setIfInBounds_toArray,List.set_cons_zero,List.set_cons_succ])
   refine wpAnyH_take (i:=5) (v:=?_) (by simp only [List.getElem?_toArray,List.getElem?_cons_succ,List.getElem?_cons_zero];rfl) (by kernel_rfl) (by kernel_rfl) (by kernel_rfl) (by exact fun _ _ _ h=>h) (Or.inl ⟨by rfl,?_⟩) (by assumption) ?_
   rotate_left
   ·(intro w hSw;(try dsimp only at hSw);go_simp;(try with_reducible rfl))
   (try simp only [Act.put,List.setIfInBounds_toArray,List.set_cons_zero,List.set_cons_succ])
   refine wpAnyH_take (i:=6) (v:=?_) (by simp only [List.getElem?_toArray,List.getElem?_cons_succ,List.getElem?_cons_zero];rfl) (by kernel_rfl) (by kernel_rfl) (by kernel_rfl) (by exact fun _ _ _ h=>h) (Or.inl ⟨by rfl,?_⟩) (by assumption) ?_
   rotate_left
   ·(intro w hSw;(try dsimp only at hSw);go_simp;(try with_reducible rfl))
   (try simp only [Act.put,List.setIfInBounds_toArray,List.set_cons_zero,List.set_cons_succ])
   refine wpAnyH_take (i:=7) (v:=?_) (by simp only [List.getElem?_toArray,List.getElem?_cons_succ,List.getElem?_cons_zero];rfl) (by kernel_rfl) (by kernel_rfl) (by kernel_rfl) (by exact fun _ _ _ h=>h) (Or.inl ⟨by rfl,?_⟩) (by assumption) ?_
   rotate_left
   ·(intro w hSw;(try dsimp only at hSw);go_simp;(try with_reducible rfl))
   (try simp only [Act.put,List.setIfInBounds_toArray,List.set_cons_zero,List.set_cons_succ])
   refine wpAnyH_take (i:=8) (v:=?_) (by simp only [List.getElem?_toArray,List.getElem?_cons_succ,List.getElem?_cons_zero];rfl) (by kernel_rfl) (by kernel_rfl) (by kernel_rfl) (by exact fun _ _ _ h=>h) (Or.inl ⟨by rfl,?_⟩) (by assumption) ?_
   rotate_left
   ·(intro w hSw;(try dsimp only at hSw);go_simp;(try with_reducible rfl))
   (try simp only [Act.put,List.setIfInBounds_toArray,List.set_cons_zero,List.set_cons_succ])
   refine wpAnyH_take (i:=9) (v:=?_) (by simp only [List.getElem?_toArray,List.getElem?_cons_succ,List.getElem?_cons_zero];rfl) (by kernel_rfl) (by kernel_rfl) (by kernel_rfl) (by exact fun _ _ _ h=>h) (Or.inl ⟨by rfl,?_⟩) (by assumption) ?_
   rotate_left
   ·(intro w hSw;(try dsimp only at hSw);go_simp;(try with_reducible rfl))
   (try simp only [Act.put,List.setIfInBounds_toArray,List.set_cons_zero,List.set_cons_succ])
   refine wpAnyH_take (i:=10) (v:=?_) (by simp only [List.getElem?_toArray,List.getElem?_cons_succ,List.getElem?_cons_zero];rfl) (by kernel_rfl) (by kernel_rfl) (by kernel_rfl) (by exact fun _ _ _ h=>h) (Or.inl ⟨by rfl,?_⟩) (by assumption) ?_
   rotate_left
   ·(intro w hSw;(try dsimp only at hSw);go_simp;(try with_reducible rfl))
   (try simp only [Act.put,List.setIfInBounds_toArray,List.set_cons_zero,List.set_cons_succ])
   refine wpAnyH_take (i:=11) (v:=?_) (by simp only [List.getElem?_toArray,List.getElem?_cons_succ,List.getElem?_cons_zero];rfl) (by kernel_rfl) (by kernel_rfl) (by kernel_rfl) (by exact fun _ _ _ h=>h) (Or.inl ⟨by rfl,?_⟩) (by assumption) ?_
   rotate_left
   ·(intro w hSw;(try dsimp only at hSw);go_simp;(try with_reducible rfl))
   (try simp only [Act.put,List.setIfInBounds_toArray,List.set_cons_zero,List.set_cons_succ])
   refine wpAnyH_take (i:=12) (v:=?_) (by simp only [List.getElem?_toArray,List.getElem?_cons_succ,List.getElem?_cons_zero];rfl) (by kernel_rfl) (by kernel_rfl) (by kernel_rfl) (by exact fun _ _ _ h=>h) (Or.inl ⟨by rfl,?_⟩) (by assumption) ?_
   rotate_left
   ·(intro w hSw;(try dsimp only at hSw);go_simp;(try with_reducible rfl))
   (try simp only [Act.put,List.setIfInBounds_toArray,List.set_cons_zero,List.set_cons_succ])
   refine wpAnyH_take (i:=13) (v:=?_) (by simp only [List.getElem?_toArray,List.getElem?_cons_succ,List.getElem?_cons_zero];rfl) (by kernel_rfl) (by kernel_rfl) (by kernel_rfl) (by exact fun _ _ _ h=>h) (Or.inl ⟨by rfl,?_⟩) (by assumption) ?_
   rotate_left
   ·(intro w hSw;(try dsimp only at hSw);go_simp;(try with_reducible rfl))
   (try simp only [Act.put,List.setIfInBounds_toArray,List.set_cons_zero,List.set_cons_succ])
   refine wpAnyH_take (i:=14) (v:=?_) (by simp only [List.getElem?_toArray,List.getElem?_cons_succ,List.getElem?_cons_zero];rfl) (by kernel_rfl) (by kernel_rfl) (by kernel_rfl) (by exact fun _ _ _ h=>h) (Or.inl ⟨by rfl,?_⟩) (by assumption) ?_
   rotate_left
   ·(intro w hSw;(try dsimp only at hSw);go_simp;(try with_reducible rfl))
   (try simp only [Act.put,List.setIfInBounds_toArray,List.set_cons_zero,List.set_cons_succ])
   refine wpAnyH_take (i:=15) (v:=?_) (by simp only [List.getElem?_toArray,List.getElem?_cons_succ,List.getElem?_cons_zero];rfl) (by kernel_rfl) (by kernel_rfl) (by kernel_rfl) (by exact fun _ _ _ h=>h) (Or.inl ⟨by rfl,?_⟩) (by assumption) ?_
   rotate_left
   ·(intro w hSw;(try dsimp only at hSw);go_simp;(try with_reducible rfl))
   (try simp only [Act.put,List.setIfInBounds_toArray,List.set_cons_zero,List.set_cons_succ])
   refine wpAnyH_take (i:=16) (v:=?_) (by simp only [List.getElem?_toArray,List.getElem?_cons_succ,List.getElem?_cons_zero];rfl) (by kernel_rfl) (by kernel_rfl) (by kernel_rfl) (by exact fun _ _ _ h=>h) (Or.inl ⟨by rfl,?_⟩) (by assumption) ?_
   rotate_left
   ·(intro w hSw;(try dsimp only at hSw);go_simp;(try with_reducible rfl))
   (try simp only [Act.put,List.setIfInBounds_toArray,List.set_cons_zero,List.set_cons_succ])
   refine wpAnyH_take (i:=17) (v:=?_) (by simp only [List.getElem?_toArray,List.getElem?_cons_succ,List.getElem?_cons_zero];rfl) (by kernel_rfl) (by kernel_rfl) (by kernel_rfl) (by exact fun _ _ _ h=>h) (Or.inl ⟨by rfl,?_⟩) (by assumption) ?_
   rotate_left
   ·(intro w hSw;(try dsimp only at hSw);go_simp;(try with_reducible rfl))
   (try simp only [Act.put,List.setIfInBounds_toArray,List.set_cons_zero,List.set_cons_succ])
   refine wpAnyH_take (i:=18) (v:=?_) (by simp only [List.getElem?_toArray,List.getElem?_cons_succ,List.getElem?_cons_zero];rfl) (by kernel_rfl) (by kernel_rfl) (by kernel_rfl) (by exact fun _ _ _ h=>h) (Or.inl ⟨by rfl,?_⟩) (by assumption) ?_
   rotate_left
   ·(intro w hSw;(try dsimp only at hSw);go_simp;(try with_reducible rfl))
   (try simp only [Act.put,List.setIfInBounds_toArray,List.set_cons_zero,List.set_cons_succ])
   refine wpAnyH_take (i:=19) (v:=?_) (by simp only [List.getElem?_toArray,List.getElem?_cons_succ,List.getElem?_cons_zero];rfl) (by kernel_rfl) (by kernel_rfl) (by kernel_rfl) (by exact fun _ _ _ h=>h) (Or.inl ⟨by rfl,?_⟩) (by assumption) ?_
   rotate_left
   ·(intro w hSw;(try dsimp only at hSw);go_simp;(try with_reducible rfl))
   (try simp only [Act.put,List.setIfInBounds_toArray,List.set_cons_zero,List.set_cons_succ])
   refine wpAnyH_ready (rs:=[20]) (by kernel_rfl) (by simp) (AllReadyH.cons (by simp only [List.getElem?_toArray,List.getElem?_cons_succ,List.getElem?_cons_zero];rfl) (fun K hK=>?_) AllReadyH.nil)
   go_simp
   refine hK.out _ _ (HSK.out _ HST.out) (fun hHeld6=>?_)
   clear hK K
   (try simp only [Act.put,List.setIfInBounds_toArray,List.set_cons_zero,List.set_cons_succ])
   refine wpAnyH_take (i:=21) (v:=?_) (by simp only [List.getElem?_toArray,List.getElem?_cons_succ,List.getElem?_cons_zero];rfl) (by kernel_rfl) (by kernel_rfl) (by kernel_rfl) (by exact fun _ _ _ h=>h) (Or.inl ⟨by rfl,?_⟩) (by assumption) ?_
   rotate_left
   ·(intro w hSw;(try dsimp only at hSw);go_simp;(try with_reducible rfl))
   (try simp only [Act.put,List.setIfInBounds_toArray,List.set_cons_zero,List.set_cons_succ])
   refine wpAnyH_done (by kernel_rfl) ?_ _
   go_wp2_with fail
   (try simp only [Exit.inBlock,Exit.then])
   refine bodyPost_ret (res_row rfl (ld_node (row_drew (pset10 HP3.out))) rfl rfl) rfl ?_
   obtain rfl:=HG.out
   refine NodeE.drew ?_
   exact .fin (m:=⟨none,0,none,0,⟨false,0,[],[],x,y,z,u,v,r⟩⟩) (b:=true) rfl (fun _=>⟨OwnR.nil _ _ _ _,OwnR.nil _ _ _ _,fun d hd=>absurd hd (by simp),fits_zero,fun d hd=>absurd hd (by simp),HKF.out x (by simp),HKF.out y (by simp),HKF.out z (by simp),HKF.out u (by simp),HKF.out v (by simp),HKF.out r (by simp)⟩) (HRD.out w3 HB3.out) HLS.out (Nat.le_refl _) (KpB.of_below HB3.out) HP3.out (Nat.le_refl _) (Nat.ne_of_lt hgl)
  |false =>
   have HG:=Lib.hid (show R=(none,ls,n) by rw [HW2.out,ho];rfl)
   clear ho hown HL6 HW2
   go_wp2_with fail
   (try simp only [Exit.inBlock,Exit.then])
   refine bodyPost_ret (res_row rfl (ld_node (pset10 HP3.out)) rfl rfl) rfl ?_
   obtain rfl:=HG.out
   exact .fin (m:=⟨none,0,none,0,⟨false,0,[],[],0,0,0,0,0,0⟩⟩) (b:=false) rfl (fun h=>by cases h) (HRD.out w3 HB3.out) HLS.out (Nat.le_refl _) (KpB.of_below HB3.out) HP3.out (Nat.le_refl _) (Nat.ne_of_lt hgl)
end Go.Proofs.YtljekdpgjaahjaaGreatDoor

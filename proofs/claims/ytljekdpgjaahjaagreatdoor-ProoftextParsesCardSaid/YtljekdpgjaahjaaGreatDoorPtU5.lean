/- lorryref39: the reader's node. (Printed by wip/mku5.py.) -/
import Derived.Test.YtljekdpgjaahjaaGreatDoorPtU4
import Derived.Test.YtljekdpgjaahjaaGreatDoorPtNd
namespace Go.Proofs.YtljekdpgjaahjaaGreatDoor
open Go.RowKit Num Txt Pf
set_option linter.unusedVariables false
attribute [local go_sem] B_size B_get B_toList B_mk B_extract B_append
theorem NodeL.drew {o:Option NodeV × List Str × Nat} {g c:Nat} {A:Option Addr} {L:List Str} {w w':World} {e:Ending} (h:NodeL o g A c L w e w'):NodeL o g A c L w e w'.drew:=by
 obtain ⟨m,b,h1,h2,h3,h4,h5,h6⟩:=h
 exact ⟨m,b,h1,h2,fun hb=>(h3 hb).below (Below.refl _ _).drew,h4.below (Below.refl _ _).drew,h5,h6.drew⟩
theorem lineN_three {l:Str} {ks:List Int} (h:lineN l leafW 3=some ks):ks.length=3∧∀ k ∈ ks,fits k:=by
 obtain ⟨_,h2,h3⟩:=lineN_some h
 exact ⟨h2,h3⟩
theorem lineN_six {l:Str} {ks:List Int} (h:lineN l nodeW 6=some ks):ks.length=6∧∀ k ∈ ks,fits k:=by
 obtain ⟨_,h2,h3⟩:=lineN_some h
 exact ⟨h2,h3⟩
set_option maxHeartbeats 8000000 in
set_option maxRecDepth 100000 in
theorem rrnode_any (g:Nat) (A:Option Addr) (c:Nat) (L:List Str) (n:Nat) (l:Str) (w:World) (h:RdL w g A c L n) (hn:n≤70000) (hll:L.length≤70000) (hlen:∀ l ∈ L,l.length≤100000) (hl:l.length≤100000) :
  Calls Tryz.prog 40 #[.pointer (some ⟨g,0,none⟩),.string (B l)] w (NodeL (nodeR l (L.drop n) n) g A c L w):=by
 obtain ⟨n1,p1⟩:=new_at w nodeZ
 have hgl:=lt_heap h.row
 have HOLD:=Lib.hid h.old
 have hsz:(w.alloc nodeZ).heap.size=w.heap.size+1:=Array.size_push ..
 have HN1:=Lib.hid (rnumbers_any l leafW 3 (w.alloc nodeZ) hl ⟨by decide,by decide⟩)
 have HN2:=Lib.hid (fun w'=>rnumbers_any l nodeW 6 w' hl ⟨by decide,by decide⟩)
 have HRD:=Lib.hid (show ∀ w',Below w.heap.size w w'→RdL w' g A c L n from fun w' hb=>h.below hb)
 have hW:nodeR l (L.drop n) n=(match lineN l leafW 3 with
  |some [k,a,b]=>leafA k a b (L.drop n) n
  |_=>match lineN l nodeW 6 with
   |some [k,a,b,c,y,z]=>(some ⟨false,0,[],[],k,a,b,c,y,z⟩,L.drop n,n)
   |_=>(none,L.drop n,n)):=rfl
 have HL1:=Lib.hid (fun ks (h:lineN l leafW 3=some ks)=>lineN_three h)
 have HL6:=Lib.hid (fun ks (h:lineN l nodeW 6=some ks)=>lineN_six h)
 have HW:=Lib.hid hW
 generalize nodeR l (L.drop n) n=R at *
 generalize lineN l leafW 3=o1 at *
 generalize lineN l nodeW 6=o2 at *
 clear h hl hW
 go_enter Tryz.func40,Tryz.ntmps40
 simp only [B_mk]
 go_upto_region 1 with fail
 generalize w.alloc nodeZ=w1 at *
 have HB1:=Lib.hid n1
 have HP1:=Lib.hid p1
 clear n1 p1
 go_wp2_with fail
 refine HN1.out.mono ?_
 rintro e w2 ⟨A1,c1,ks,b,rfl,ho,hown,hb2⟩
 have HB2:=Lib.hid (below_lift HB1.out hb2)
 have HP2:=Lib.hid (row_keep HP1.out hb2)
 clear hb2 HN1 HB1 HP1
 cases b with
 |true =>
  obtain ⟨hk3,hkf⟩:=HL1.out ks ho
  obtain ⟨x,y,z,rfl⟩:=three_of hk3
  have hRR:=HW.out
  rw [ho] at hRR
  change R=leafA x y z (L.drop n) n at hRR
  have HLF:=Lib.hid (rleaf_any g A c L n x y z A1 c1 w1.heap.size w2 (HRD.out w2 HB2.out) hn hll hlen hown (by omega) (hkf x (by simp)))
  rw [← hRR] at HLF
  clear hRR hk3 hkf ho HW HL1 HL6 hown
  go_wp2_with fail
  refine HLF.out.mono ?_
  rintro e w3 ⟨m,b,rfl,ho,hno,hrd,hls,hkp⟩
  have HP3:=Lib.hid (hkp.row HP2.out (show w.heap.size≠g by omega))
  have HNO:=Lib.hid hno
  have HO:=Lib.hid ho
  have HR3:=Lib.hid hrd
  have HL3:=Lib.hid hls
  have HK3:=Lib.hid ((KpB.of_below HB2.out).trans hkp)
  have HB2S:=Lib.hid HB2.out.size
  clear hno ho hrd hls hkp HLF HP2 HB2
  obtain ⟨mA,mca,mC,mcc,⟨leaf,kind,cuts,dual,ck,ca',cb,cn,yes,no⟩⟩:=m
  obtain ⟨r0,r1,r2,r3,r4,r5,r6,r7,r8,r9⟩:=cells10 HP3.out
  have z:=frz HP3.out
  have z0:=z 0
  have z1:=z 1
  have z2:=z 2
  have z3:=z 3
  have z4:=z 4
  have z5:=z 5
  have z6:=z 6
  have z7:=z 7
  have z8:=z 8
  have z9:=z 9
  clear z
  go_wp2_with fail
  (try simp only [Exit.inBlock,Exit.then])
  refine bodyPost_ret (res_row rfl (ld_node (pset10 HP3.out)) rfl rfl) rfl ?_
  exact .fin (m:=⟨mA,mca,mC,mcc,⟨leaf,kind,cuts,dual,ck,ca',cb,cn,yes,no⟩⟩) (b:=b) HO.out (fun hb=>(HNO.out hb).mono HB2S.out) HR3.out HL3.out HK3.out HP3.out (Nat.le_refl _) hgl HOLD.out
 |false =>
  have hRR:=HW.out
  rw [ho] at hRR
  change R=(match (generalizing:=false) o2 with
   |some [k,a,b,c,y,z]=>(some ⟨false,0,[],[],k,a,b,c,y,z⟩,L.drop n,n)
   |_=>(none,L.drop n,n)) at hRR
  have HW2:=Lib.hid hRR
  have HNN:=Lib.hid (HN2.out w2)
  clear hRR ho HW HL1 hown HN2
  go_wp2_with fail
  refine HNN.out.mono ?_
  rintro e w3 ⟨A2,c2,ks2,b,rfl,ho,hown,hb3⟩
  have HB3:=Lib.hid (below_lift HB2.out hb3)
  have HP3:=Lib.hid (row_keep HP2.out hb3)
  have hszz:=HB2.out.size
  have HPL:=Lib.hid (lt_heap HP2.out)
  clear hb3 HNN HB2 HP2
  obtain ⟨r0,r1,r2,r3,r4,r5,r6,r7,r8,r9⟩:=cells10 HP3.out
  have z:=frz HP3.out
  have z0:=z 0
  have z1:=z 1
  have z2:=z 2
  have z3:=z 3
  have z4:=z 4
  have z5:=z 5
  have z6:=z 6
  have z7:=z 7
  have z8:=z 8
  have z9:=z 9
  clear z
  cases b with
  |true =>
   obtain ⟨hk6,hkf⟩:=HL6.out ks2 ho
   obtain ⟨x,y,z,u,v,r,rfl⟩:=six_of hk6
   have HG:=Lib.hid (show R=(some ⟨false,0,[],[],x,y,z,u,v,r⟩,L.drop n,n) by rw [HW2.out,ho];rfl)
   have HKF:=Lib.hid hkf
   obtain ⟨q4,rfl,hq4,hlt4,hcap4,x0,x1,x2,x3,x4,x5⟩:=own6 hown
   have HSK:=Lib.hid (show ∀ w',w'.heap[q4]? = w3.heap[q4]? → w'.cell? ⟨q4,0,none⟩=some (.int .i64 x)∧w'.cell? ⟨q4,1,none⟩=some (.int .i64 y)∧w'.cell? ⟨q4,2,none⟩=some (.int .i64 z)∧w'.cell? ⟨q4,3,none⟩=some (.int .i64 u)∧w'.cell? ⟨q4,4,none⟩=some (.int .i64 v)∧w'.cell? ⟨q4,5,none⟩=some (.int .i64 r) from fun w' hb=>⟨(World.cell?_of_block (w:=w3) (w':=w') (a:=⟨q4,0,none⟩) hb).trans x0,(World.cell?_of_block (w:=w3) (w':=w') (a:=⟨q4,1,none⟩) hb).trans x1,(World.cell?_of_block (w:=w3) (w':=w') (a:=⟨q4,2,none⟩) hb).trans x2,(World.cell?_of_block (w:=w3) (w':=w') (a:=⟨q4,3,none⟩) hb).trans x3,(World.cell?_of_block (w:=w3) (w':=w') (a:=⟨q4,4,none⟩) hb).trans x4,(World.cell?_of_block (w:=w3) (w':=w') (a:=⟨q4,5,none⟩) hb).trans x5⟩)
   have hS0:=HSK.out w3.drew rfl
   have hqn:q4≠w.heap.size:=by have:=HPL.out;omega
   have HST:=Lib.hid ((((((((((((KpB.refl w.heap.size w3).store 0 (.bool false)).store 1 (.int .i64 0)).store 2 (.slice none 0 0)).store 3 (.slice none 0 0)).store 4 (.int .i64 x)).store 5 (.int .i64 y)).store 6 (.int .i64 z)).store 7 (.int .i64 u)).store 8 (.int .i64 v)).store 9 (.int .i64 r)).drew.2 q4 hlt4 hqn)
   clear hk6 hkf ho hown HL6 HW2
   go_upto_region 7 with fail
   refine wp_region_held_drew (S:=fun w'=>w'.cell? ⟨q4,0,none⟩=some (.int .i64 x)∧w'.cell? ⟨q4,1,none⟩=some (.int .i64 y)∧w'.cell? ⟨q4,2,none⟩=some (.int .i64 z)∧w'.cell? ⟨q4,3,none⟩=some (.int .i64 u)∧w'.cell? ⟨q4,4,none⟩=some (.int .i64 v)∧w'.cell? ⟨q4,5,none⟩=some (.int .i64 r)) (by kernel_rfl) hS0 (fun hHeld=>?_)
   refine wpAnyH_take (i:=0) (v:=?_) (by simp only [List.getElem?_toArray,List.getElem?_cons_zero];rfl) (by kernel_rfl) (by kernel_rfl) (by kernel_rfl) (by exact fun _ _ _ h=>h) (Or.inl ⟨by rfl,?_⟩) (by assumption) ?_
   rotate_left
   ·(intro w hSw;(try dsimp only at hSw);go_simp;(try with_reducible rfl))
   (try simp only [Act.put,List.setIfInBounds_toArray,List.set_cons_zero,List.set_cons_succ])
   refine wpAnyH_take (i:=1) (v:=?_) (by simp only [List.getElem?_toArray,List.getElem?_cons_succ,List.getElem?_cons_zero];rfl) (by kernel_rfl) (by kernel_rfl) (by kernel_rfl) (by exact fun _ _ _ h=>h) (Or.inl ⟨by rfl,?_⟩) (by assumption) ?_
   rotate_left
   ·(intro w hSw;(try dsimp only at hSw);go_simp;(try with_reducible rfl))
   (try simp only [Act.put,List.setIfInBounds_toArray,List.set_cons_zero,List.set_cons_succ])
   refine wpAnyH_take (i:=2) (v:=?_) (by simp only [List.getElem?_toArray,List.getElem?_cons_succ,List.getElem?_cons_zero];rfl) (by kernel_rfl) (by kernel_rfl) (by kernel_rfl) (by exact fun _ _ _ h=>h) (Or.inl ⟨by rfl,?_⟩) (by assumption) ?_
   rotate_left
   ·(intro w hSw;(try dsimp only at hSw);go_simp;(try with_reducible rfl))
   (try simp only [Act.put,List.setIfInBounds_toArray,List.set_cons_zero,List.set_cons_succ])
   refine wpAnyH_take (i:=3) (v:=?_) (by simp only [List.getElem?_toArray,List.getElem?_cons_succ,List.getElem?_cons_zero];rfl) (by kernel_rfl) (by kernel_rfl) (by kernel_rfl) (by exact fun _ _ _ h=>h) (Or.inl ⟨by rfl,?_⟩) (by assumption) ?_
   rotate_left
   ·(intro w hSw;(try dsimp only at hSw);go_simp;(try with_reducible rfl))
   (try simp only [Act.put,List.setIfInBounds_toArray,List.set_cons_zero,List.set_cons_succ])
   refine wpAnyH_take (i:=4) (v:=?_) (by simp only [List.getElem?_toArray,List.getElem?_cons_succ,List.getElem?_cons_zero];rfl) (by kernel_rfl) (by kernel_rfl) (by kernel_rfl) (by exact fun _ _ _ h=>h) (Or.inl ⟨by rfl,?_⟩) (by assumption) ?_
   rotate_left
   ·(intro w hSw;(try dsimp only at hSw);go_simp;(try with_reducible rfl))
   (try simp only [Act.put,List.setIfInBounds_toArray,List.set_cons_zero,List.set_cons_succ])
   refine wpAnyH_take (i:=5) (v:=?_) (by simp only [List.getElem?_toArray,List.getElem?_cons_succ,List.getElem?_cons_zero];rfl) (by kernel_rfl) (by kernel_rfl) (by kernel_rfl) (by exact fun _ _ _ h=>h) (Or.inl ⟨by rfl,?_⟩) (by assumption) ?_
   rotate_left
   ·(intro w hSw;(try dsimp only at hSw);go_simp;(try with_reducible rfl))
   (try simp only [Act.put,List.setIfInBounds_toArray,List.set_cons_zero,List.set_cons_succ])
   refine wpAnyH_take (i:=6) (v:=?_) (by simp only [List.getElem?_toArray,List.getElem?_cons_succ,List.getElem?_cons_zero];rfl) (by kernel_rfl) (by kernel_rfl) (by kernel_rfl) (by exact fun _ _ _ h=>h) (Or.inl ⟨by rfl,?_⟩) (by assumption) ?_
   rotate_left
   ·(intro w hSw;(try dsimp only at hSw);go_simp;(try with_reducible rfl))
   (try simp only [Act.put,List.setIfInBounds_toArray,List.set_cons_zero,List.set_cons_succ])
   refine wpAnyH_take (i:=7) (v:=?_) (by simp only [List.getElem?_toArray,List.getElem?_cons_succ,List.getElem?_cons_zero];rfl) (by kernel_rfl) (by kernel_rfl) (by kernel_rfl) (by exact fun _ _ _ h=>h) (Or.inl ⟨by rfl,?_⟩) (by assumption) ?_
   rotate_left
   ·(intro w hSw;(try dsimp only at hSw);go_simp;(try with_reducible rfl))
   (try simp only [Act.put,List.setIfInBounds_toArray,List.set_cons_zero,List.set_cons_succ])
   refine wpAnyH_take (i:=8) (v:=?_) (by simp only [List.getElem?_toArray,List.getElem?_cons_succ,List.getElem?_cons_zero];rfl) (by kernel_rfl) (by kernel_rfl) (by kernel_rfl) (by exact fun _ _ _ h=>h) (Or.inl ⟨by rfl,?_⟩) (by assumption) ?_
   rotate_left
   ·(intro w hSw;(try dsimp only at hSw);go_simp;(try with_reducible rfl))
   (try simp only [Act.put,List.setIfInBounds_toArray,List.set_cons_zero,List.set_cons_succ])
   refine wpAnyH_take (i:=9) (v:=?_) (by simp only [List.getElem?_toArray,List.getElem?_cons_succ,List.getElem?_cons_zero];rfl) (by kernel_rfl) (by kernel_rfl) (by kernel_rfl) (by exact fun _ _ _ h=>h) (Or.inl ⟨by rfl,?_⟩) (by assumption) ?_
   rotate_left
   ·(intro w hSw;(try dsimp only at hSw);go_simp;(try with_reducible rfl))
   (try simp only [Act.put,List.setIfInBounds_toArray,List.set_cons_zero,List.set_cons_succ])
   refine wpAnyH_take (i:=10) (v:=?_) (by simp only [List.getElem?_toArray,List.getElem?_cons_succ,List.getElem?_cons_zero];rfl) (by kernel_rfl) (by kernel_rfl) (by kernel_rfl) (by exact fun _ _ _ h=>h) (Or.inl ⟨by rfl,?_⟩) (by assumption) ?_
   rotate_left
   ·(intro w hSw;(try dsimp only at hSw);go_simp;(try with_reducible rfl))
   (try simp only [Act.put,List.setIfInBounds_toArray,List.set_cons_zero,List.set_cons_succ])
   refine wpAnyH_take (i:=11) (v:=?_) (by simp only [List.getElem?_toArray,List.getElem?_cons_succ,List.getElem?_cons_zero];rfl) (by kernel_rfl) (by kernel_rfl) (by kernel_rfl) (by exact fun _ _ _ h=>h) (Or.inl ⟨by rfl,?_⟩) (by assumption) ?_
   rotate_left
   ·(intro w hSw;(try dsimp only at hSw);go_simp;(try with_reducible rfl))
   (try simp only [Act.put,List.setIfInBounds_toArray,List.set_cons_zero,List.set_cons_succ])
   refine wpAnyH_take (i:=12) (v:=?_) (by simp only [List.getElem?_toArray,List.getElem?_cons_succ,List.getElem?_cons_zero];rfl) (by kernel_rfl) (by kernel_rfl) (by kernel_rfl) (by exact fun _ _ _ h=>h) (Or.inl ⟨by rfl,?_⟩) (by assumption) ?_
   rotate_left
   ·(intro w hSw;(try dsimp only at hSw);go_simp;(try with_reducible rfl))
   (try simp only [Act.put,List.setIfInBounds_toArray,List.set_cons_zero,List.set_cons_succ])
   refine wpAnyH_take (i:=13) (v:=?_) (by simp only [List.getElem?_toArray,List.getElem?_cons_succ,List.getElem?_cons_zero];rfl) (by kernel_rfl) (by kernel_rfl) (by kernel_rfl) (by exact fun _ _ _ h=>h) (Or.inl ⟨by rfl,?_⟩) (by assumption) ?_
   rotate_left
   ·(intro w hSw;(try dsimp only at hSw);go_simp;(try with_reducible rfl))
   (try simp only [Act.put,List.setIfInBounds_toArray,List.set_cons_zero,List.set_cons_succ])
   refine wpAnyH_take (i:=14) (v:=?_) (by simp only [List.getElem?_toArray,List.getElem?_cons_succ,List.getElem?_cons_zero];rfl) (by kernel_rfl) (by kernel_rfl) (by kernel_rfl) (by exact fun _ _ _ h=>h) (Or.inl ⟨by rfl,?_⟩) (by assumption) ?_
   rotate_left
   ·(intro w hSw;(try dsimp only at hSw);go_simp;(try with_reducible rfl))
   (try simp only [Act.put,List.setIfInBounds_toArray,List.set_cons_zero,List.set_cons_succ])
   refine wpAnyH_take (i:=15) (v:=?_) (by simp only [List.getElem?_toArray,List.getElem?_cons_succ,List.getElem?_cons_zero];rfl) (by kernel_rfl) (by kernel_rfl) (by kernel_rfl) (by exact fun _ _ _ h=>h) (Or.inl ⟨by rfl,?_⟩) (by assumption) ?_
   rotate_left
   ·(intro w hSw;(try dsimp only at hSw);go_simp;(try with_reducible rfl))
   (try simp only [Act.put,List.setIfInBounds_toArray,List.set_cons_zero,List.set_cons_succ])
   refine wpAnyH_take (i:=16) (v:=?_) (by simp only [List.getElem?_toArray,List.getElem?_cons_succ,List.getElem?_cons_zero];rfl) (by kernel_rfl) (by kernel_rfl) (by kernel_rfl) (by exact fun _ _ _ h=>h) (Or.inl ⟨by rfl,?_⟩) (by assumption) ?_
   rotate_left
   ·(intro w hSw;(try dsimp only at hSw);go_simp;(try with_reducible rfl))
   (try simp only [Act.put,List.setIfInBounds_toArray,List.set_cons_zero,List.set_cons_succ])
   refine wpAnyH_take (i:=17) (v:=?_) (by simp only [List.getElem?_toArray,List.getElem?_cons_succ,List.getElem?_cons_zero];rfl) (by kernel_rfl) (by kernel_rfl) (by kernel_rfl) (by exact fun _ _ _ h=>h) (Or.inl ⟨by rfl,?_⟩) (by assumption) ?_
   rotate_left
   ·(intro w hSw;(try dsimp only at hSw);go_simp;(try with_reducible rfl))
   (try simp only [Act.put,List.setIfInBounds_toArray,List.set_cons_zero,List.set_cons_succ])
   refine wpAnyH_take (i:=18) (v:=?_) (by simp only [List.getElem?_toArray,List.getElem?_cons_succ,List.getElem?_cons_zero];rfl) (by kernel_rfl) (by kernel_rfl) (by kernel_rfl) (by exact fun _ _ _ h=>h) (Or.inl ⟨by rfl,?_⟩) (by assumption) ?_
   rotate_left
   ·(intro w hSw;(try dsimp only at hSw);go_simp;(try with_reducible rfl))
   (try simp only [Act.put,List.setIfInBounds_toArray,List.set_cons_zero,List.set_cons_succ])
   refine wpAnyH_take (i:=19) (v:=?_) (by simp only [List.getElem?_toArray,List.getElem?_cons_succ,List.getElem?_cons_zero];rfl) (by kernel_rfl) (by kernel_rfl) (by kernel_rfl) (by exact fun _ _ _ h=>h) (Or.inl ⟨by rfl,?_⟩) (by assumption) ?_
   rotate_left
   ·(intro w hSw;(try dsimp only at hSw);go_simp;(try with_reducible rfl))
   (try simp only [Act.put,List.setIfInBounds_toArray,List.set_cons_zero,List.set_cons_succ])
   refine wpAnyH_ready (rs:=[20]) (by kernel_rfl) (by simp) (AllReadyH.cons (by simp only [List.getElem?_toArray,List.getElem?_cons_succ,List.getElem?_cons_zero];rfl) (fun K hK=>?_) AllReadyH.nil)
   go_simp
   refine hK.out _ _ (HSK.out _ HST.out) (fun hHeld6=>?_)
   clear hK K
   (try simp only [Act.put,List.setIfInBounds_toArray,List.set_cons_zero,List.set_cons_succ])
   refine wpAnyH_take (i:=21) (v:=?_) (by simp only [List.getElem?_toArray,List.getElem?_cons_succ,List.getElem?_cons_zero];rfl) (by kernel_rfl) (by kernel_rfl) (by kernel_rfl) (by exact fun _ _ _ h=>h) (Or.inl ⟨by rfl,?_⟩) (by assumption) ?_
   rotate_left
   ·(intro w hSw;(try dsimp only at hSw);go_simp;(try with_reducible rfl))
   (try simp only [Act.put,List.setIfInBounds_toArray,List.set_cons_zero,List.set_cons_succ])
   refine wpAnyH_done (by kernel_rfl) ?_ _
   go_wp2_with fail
   (try simp only [Exit.inBlock,Exit.then])
   refine bodyPost_ret (res_row rfl (ld_node (row_drew (pset10 HP3.out))) rfl rfl) rfl ?_
   obtain rfl:=HG.out
   refine NodeL.drew ?_
   exact .fin (m:=⟨none,0,none,0,⟨false,0,[],[],x,y,z,u,v,r⟩⟩) (b:=true) rfl (fun _=>⟨OwnR.nil _ _ _ _,OwnR.nil _ _ _ _,fun d hd=>absurd hd (by simp),fits_zero,fun d hd=>absurd hd (by simp),HKF.out x (by simp),HKF.out y (by simp),HKF.out z (by simp),HKF.out u (by simp),HKF.out v (by simp),HKF.out r (by simp)⟩) (HRD.out w3 HB3.out) rfl (KpB.of_below HB3.out) HP3.out (Nat.le_refl _) hgl HOLD.out
  |false =>
   have HG:=Lib.hid (show R=(none,L.drop n,n) by rw [HW2.out,ho];rfl)
   clear ho hown HL6 HW2
   go_wp2_with fail
   (try simp only [Exit.inBlock,Exit.then])
   refine bodyPost_ret (res_row rfl (ld_node (pset10 HP3.out)) rfl rfl) rfl ?_
   obtain rfl:=HG.out
   exact .fin (m:=⟨none,0,none,0,⟨false,0,[],[],0,0,0,0,0,0⟩⟩) (b:=false) rfl (fun h=>by cases h) (HRD.out w3 HB3.out) rfl (KpB.of_below HB3.out) HP3.out (Nat.le_refl _) hgl HOLD.out
end Go.Proofs.YtljekdpgjaahjaaGreatDoor

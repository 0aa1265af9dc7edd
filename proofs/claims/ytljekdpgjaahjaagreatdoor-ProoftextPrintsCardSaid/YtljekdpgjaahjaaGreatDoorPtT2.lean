/- lorryref39: node. (Printed by wip/mkt2.py.) -/
import Derived.Test.YtljekdpgjaahjaaGreatDoorPtT1
import Derived.Test.YtljekdpgjaahjaaGreatDoorG59
import Derived.Test.YtljekdpgjaahjaaGreatDoorG49
namespace Go.Proofs.YtljekdpgjaahjaaGreatDoor
open Go.RowKit Num Txt Pf
set_option linter.unusedVariables false
attribute [local go_sem] B_size B_get B_toList B_mk B_extract B_append
def nodeP (n:NodeV):Str × Int:=if foreign n=true then ([],2) else if n.dual.all rightQ=true then (nodeS n,0) else ([],3)
theorem dualS_eq (d:Str):dualS d=[100,117,97,108,32] ++ d ++ [10]:=rfl
theorem all_not {l:List Str} {k:Nat} (h:k<l.length) (hr:rightQ l[k]=false):l.all rightQ=false:=by
 rw [List.all_eq_false]
 exact ⟨l[k],List.getElem_mem h,by rw [hr];decide⟩
theorem all_take {l:List Str} {k:Nat} (h:k<l.length) (ha:(l.take k).all rightQ=true) (hr:rightQ l[k]=true):(l.take (k+1)).all rightQ=true:=by
 rw [List.take_succ_eq_append_getElem h,List.all_append,ha];simp [hr]
theorem rline_new {ks:List Int} {g:Nat} {w:World} (word:Str) (ho:w.heap[g]? = some (.cells (ints ks).toArray 3)) (hf:∀ k ∈ ks,fits k) (hk:ks.length≤100) (hw:word.length≤100) :
  Calls Tryz.prog 66 #[.string (B word),.slice (some ⟨g,0,none⟩) ks.length ks.length] w fun e w'=>e=.returned (.string (B (lineS (word :: ks.map decI))))∧Below w.heap.size w w' :=
 rlineN_any word ks _ _ w (cells_obj ho) ⟨Nat.le_refl _,by unfold maxLen;omega⟩ hf hk hw
set_option maxHeartbeats 8000000 in
set_option maxRecDepth 100000 in
theorem rnode_any (m:NodeM) (w:World) (h:NodeAt w m) (h1:m.n.cuts.length≤1000) (h2:m.n.dual.length≤1000) (h3:∀ d ∈ m.n.dual,d.length≤10000) :
  Calls Tryz.prog 31 #[nodeA m] w fun e w'=>e=.returned (.tuple #[.string (B (nodeP m.n).1),.int .i64 (nodeP m.n).2])∧Below w.heap.size w w':=by
 obtain ⟨bw,o1⟩:=new_at w (nodeB m)
 have HB:=Lib.hid bw
 have HO:=Lib.hid o1
 have HN:=Lib.hid (h.below bw)
 have l1:=h.cl
 have l2:=h.dl
 unfold maxLen at l1 l2
 have HFO:=Lib.hid (rforeign_any m _ (h.below bw))
 have H3:=Lib.hid h3
 have hr:nodeP m.n=if foreign m.n=true then ([],2) else if m.n.dual.all rightQ=true then (nodeS m.n,0) else ([],3):=rfl
 generalize nodeP m.n=R at *
 have hin:foreign m.n=false→m.n.leaf=false→m.n.dual=[]:=fun hf hl=>by
  unfold foreign at hf
  rw [hl] at hf
  simp at hf
  exact hf.2
 generalize foreign m.n=fb at *
 have HR:=Lib.hid hr
 have HIN:=Lib.hid hin
 have hns:nodeS m.n=if m.n.leaf then lineS [leafW,decI m.n.kind,decI m.n.cuts.length,decI m.n.dual.length] ++ m.n.cuts.flatMap cutS ++ m.n.dual.flatMap dualS else lineS [nodeW,decI m.n.ck,decI m.n.ca,decI m.n.cb,decI m.n.cn,decI m.n.yes,decI m.n.no]:=rfl
 have HNS:=Lib.hid hns
 generalize nodeS m.n=NS at *
 clear h bw o1 hr h3 hns hin
 obtain ⟨A,cA,C,cC,⟨leaf,kind,cuts,dual,ck,ca,cb,cn,yes,no⟩⟩:=m
 simp only at l1 l2 h1 h2 H3 HR HIN HNS
 go_enter Tryz.func31,Tryz.ntmps31
 simp only [B_mk]
 go_upto_region 1 with fail
 generalize (w.alloc _)=wB at *
 obtain ⟨a0,a1,a2,a3,a4,a5,a6,a7,a8,a9⟩:=cells10 HO.out
 go_wp2_with fail
 refine HFO.out.mono ?_
 rintro e w2 ⟨rfl,hb2⟩
 have HB2:=Lib.hid (below_lift HB.out hb2)
 have HO2:=Lib.hid (row_keep HO.out hb2)
 have HN2:=Lib.hid (HN.out.below hb2)
 clear a0 a1 a2 a3 a4 a5 a6 a7 a8 a9 hb2 HFO HB HO HN
 obtain ⟨a0,a1,a2,a3,a4,a5,a6,a7,a8,a9⟩:=cells10 HO2.out
 cases fb with
 |true =>
  obtain rfl:=HR.out
  go_wp2_with fail
  go_ret2
  exact ⟨rfl,HB2.out⟩
 |false =>
  have HR1:=Lib.hid (show R=if dual.all rightQ=true then (NS,0) else ([],3) from HR.out)
  clear HR
  cases leaf with
  |false =>
   obtain rfl:=HIN.out rfl rfl
   have HR:=Lib.hid (show R=(lineS (nodeW :: [ck,ca,cb,cn,yes,no].map decI),0) from by rw [HR1.out,HNS.out];rfl)
   obtain ⟨n3,p3⟩:=new_at w2 (.cells #[.int .i64 ck,.int .i64 ca,.int .i64 cb,.int .i64 cn,.int .i64 yes,.int .i64 no] 3)
   have HLN:=Lib.hid (rline_new (ks:=[ck,ca,cb,cn,yes,no]) nodeW p3 (by
    intro k hk
    simp only [List.mem_cons,List.not_mem_nil,or_false] at hk
    rcases hk with rfl | rfl | rfl | rfl | rfl | rfl
    ·exact HN2.out.ck
    ·exact HN2.out.ca
    ·exact HN2.out.cb
    ·exact HN2.out.cn
    ·exact HN2.out.yes
    ·exact HN2.out.no) (show 6≤100 by decide) (by decide))
   have HN3:=Lib.hid n3
   clear n3 p3
   go_wp2_with fail
   refine HLN.out.mono ?_
   rintro e w5 ⟨rfl,hb5⟩
   go_wp2_with fail
   go_ret2
   rw [HR.out]
   exact ⟨rfl,below_lift HB2.out (below_lift HN3.out hb5)⟩
  |true =>
   have HNS1:=Lib.hid (show NS=lineS (leafW :: [kind,(cuts.length:Int),(dual.length:Int)].map decI) ++ cuts.flatMap cutS ++ dual.flatMap dualS from HNS.out)
   clear HNS HIN
   obtain ⟨n3,p3⟩:=new_at w2 (.cells #[.int .i64 kind,.int .i64 cuts.length,.int .i64 dual.length] 3)
   have HLN:=Lib.hid (rline_new (ks:=[kind,(cuts.length:Int),(dual.length:Int)]) leafW p3 (by
    intro k hk
    simp only [List.mem_cons,List.not_mem_nil,or_false] at hk
    rcases hk with rfl | rfl | rfl
    ·exact HN2.out.kind
    ·exact fits_nat (by omega)
    ·exact fits_nat (by omega)) (show 3≤100 by decide) (by decide))
   have HN3:=Lib.hid n3
   have hl0:(lineS (leafW :: [kind,(cuts.length:Int),(dual.length:Int)].map decI)).length≤1000:=by
    refine Nat.le_trans (line_len (k:=21) fun x hx=>?_) (show 4*(21+1)+1≤1000 by decide)
    simp only [List.map_cons,List.map_nil,List.mem_cons,List.not_mem_nil,or_false] at hx
    rcases hx with rfl | rfl | rfl | rfl
    ·decide
    ·exact Pf.decI_len HN2.out.kind
    ·exact Pf.decI_len (fits_nat (by omega))
    ·exact Pf.decI_len (fits_nat (by omega))
   clear n3 p3
   generalize lineS (leafW :: [kind,(cuts.length:Int),(dual.length:Int)].map decI)=L0 at *
   go_wp2_with fail
   refine HLN.out.mono ?_
   rintro e w5 ⟨rfl,hb5⟩
   have hb5:=below_lift HN3.out hb5
   have HB5:=Lib.hid (below_lift HB2.out hb5)
   have HO5:=Lib.hid (row_keep HO2.out hb5)
   have HN5:=Lib.hid (HN2.out.below hb5)
   clear hb5 HLN HN3 a0 a1 a2 a3 a4 a5 a6 a7 a8 a9 HB2 HO2 HN2
   go_wp2_with fail
   go_loopw [4,5] (fun s i wr=>∃ k:Nat,k≤cuts.length∧i=.int .i64 k∧s=.string (B (L0 ++ (cuts.take k).flatMap cutS))∧Below w5.heap.size w5 wr) (fun _ i _=>cuts.length - (intOf i).toNat)
   case atStart=>exact ⟨0,by omega,rfl,by simp,Below.refl _ _⟩
   case round =>
    obtain ⟨k,hk,rfl,rfl,hbel⟩:=hrel
    have hsl:=flat_le2 cutS (b:=100) (cuts.take k) (fun c hc=>cutS_len (HN5.out.cutsF c (List.mem_of_mem_take hc))) 1000 (by rw [List.length_take_of_le hk];exact Nat.le_trans hk h1)
    have hsl:(L0 ++ (cuts.take k).flatMap cutS).length≤200000:=by rw [List.length_append];omega
    obtain ⟨a0,a1,a2,a3,a4,a5,a6,a7,a8,a9⟩:=cells10 (row_keep HO5.out hbel)
    by_cases hlt:k<cuts.length
    ·have hkl:(k:Int)<(cuts.length:Int):=by omega
     obtain ⟨g1,o1,hA1,hg1,hx1⟩:=elems cutC_len (by decide) (show Cells w5 A (cuts.flatMap cutC) from HN5.out.cuts) (by omega)
     subst hA1
     have hx3:=hx1 k hlt
     have HTK:=Lib.hid (flat_take cutS hlt)
     have HCF:=Lib.hid (HN5.out.cutsF _ (List.getElem_mem hlt))
     have hcl:=cutS_len HCF.out
     clear hx1
     generalize cuts[k]=ct at *
     obtain ⟨x,y,z⟩:=ct
     have c0:=(hbel.cell (p:=⟨g1,o1+k*3,none⟩) hg1).trans (hx3 0 (.int .i64 x) rfl)
     have c1:=(hbel.cell (p:=⟨g1,o1+k*3+1,none⟩) hg1).trans (hx3 1 (.int .i64 y) rfl)
     have c2:=(hbel.cell (p:=⟨g1,o1+k*3+2,none⟩) hg1).trans (hx3 2 (.int .i64 z) rfl)
     have HTK:=Lib.hid (show (L0 ++ (cuts.take k).flatMap cutS) ++ lineS (cutW :: [x,y,z].map decI)=L0 ++ (cuts.take (k+1)).flatMap cutS by rw [List.append_assoc,← HTK.out];rfl)
     obtain ⟨n6,p6⟩:=new_at wr (.cells #[.int .i64 x,.int .i64 y,.int .i64 z] 3)
     have HLN:=Lib.hid (rline_new (ks:=[x,y,z]) (w:=(wr.alloc (.cells #[.int .i64 x,.int .i64 y,.int .i64 z] 3)).drew) cutW p6 (by
      intro k hk
      simp only [List.mem_cons,List.not_mem_nil,or_false] at hk
      rcases hk with rfl | rfl | rfl
      ·exact HCF.out.1
      ·exact HCF.out.2.1
      ·exact HCF.out.2.2) (show 3≤100 by decide) (by decide))
     have hll:(lineS (cutW :: [x,y,z].map decI)).length≤100:=hcl
     have HBN:=Lib.hid (below_lift hbel n6.drew)
     have HSK:=Lib.hid (show ∀ w',Below wr.heap.size wr w'→w'.cell? ⟨w.heap.size,2,none⟩=some (.slice (some ⟨g1,o1,none⟩) cuts.length cA)∧w'.cell? ⟨g1,o1+k*3,none⟩=some (.int .i64 x)∧w'.cell? ⟨g1,o1+k*3+1,none⟩=some (.int .i64 y)∧w'.cell? ⟨g1,o1+k*3+2,none⟩=some (.int .i64 z) from fun w' hb=>by
      obtain ⟨_,_,b2,_⟩:=cells10 (row_keep (row_keep HO5.out hbel) hb)
      have hg2:g1<wr.heap.size:=Nat.lt_of_lt_of_le hg1 hbel.size
      exact ⟨b2,(hb.cell (p:=⟨g1,o1+k*3,none⟩) hg2).trans c0,(hb.cell (p:=⟨g1,o1+k*3+1,none⟩) hg2).trans c1,(hb.cell (p:=⟨g1,o1+k*3+2,none⟩) hg2).trans c2⟩)
     have hS0:=HSK.out wr.drew (Below.refl _ _).drew
     have HN6:=Lib.hid n6
     clear hx3 hcl HCF n6 p6
     generalize lineS (cutW :: [x,y,z].map decI)=CS at *
     generalize L0 ++ (cuts.take k).flatMap cutS=S1 at *
     have hcat:¬ 9223372036854775807<List.length S1+List.length CS:=by omega
     go_upto_region 9 with fail
     refine wp_region_held_drew (S:=fun w'=>w'.cell? ⟨w.heap.size,2,none⟩=some (.slice (some ⟨g1,o1,none⟩) cuts.length cA)∧w'.cell? ⟨g1,o1+k*3,none⟩=some (.int .i64 x)∧w'.cell? ⟨g1,o1+k*3+1,none⟩=some (.int .i64 y)∧w'.cell? ⟨g1,o1+k*3+2,none⟩=some (.int .i64 z)) (by kernel_rfl) hS0 (fun hHeld=>?_)
     refine wpAnyH_take (i:=0) (v:=?_) (by simp only [List.getElem?_toArray,List.getElem?_cons_zero];rfl) (by kernel_rfl) (by kernel_rfl) (by kernel_rfl) (by exact fun _ _ _ h=>h) (Or.inl ⟨by rfl,?_⟩) (by assumption) ?_
     rotate_left
     ·(intro w hSw;(try dsimp only at hSw);go_simp;(try with_reducible rfl))
     (try simp only [Act.put,List.setIfInBounds_toArray,List.set_cons_zero,List.set_cons_succ])
     refine wpAnyH_take (i:=1) (v:=?_) (by simp only [List.getElem?_toArray,List.getElem?_cons_succ,List.getElem?_cons_zero];rfl) (by kernel_rfl) (by kernel_rfl) (by kernel_rfl) (by exact fun _ _ _ h=>h) (Or.inl ⟨by rfl,?_⟩) (by assumption) ?_
     rotate_left
     ·(intro w hSw;(try dsimp only at hSw);go_simp;(try with_reducible rfl))
     (try simp only [Act.put,List.setIfInBounds_toArray,List.set_cons_zero,List.set_cons_succ])
     refine wpAnyH_take (i:=2) (v:=?_) (by simp only [List.getElem?_toArray,List.getElem?_cons_succ,List.getElem?_cons_zero];rfl) (by kernel_rfl) (by kernel_rfl) (by kernel_rfl) (by exact fun _ _ _ h=>h) (Or.inl ⟨by rfl,?_⟩) (by assumption) ?_
     rotate_left
     ·(intro w hSw;(try dsimp only at hSw);go_simp;(try with_reducible rfl))
     (try simp only [Act.put,List.setIfInBounds_toArray,List.set_cons_zero,List.set_cons_succ])
     refine wpAnyH_take (i:=3) (v:=?_) (by simp only [List.getElem?_toArray,List.getElem?_cons_succ,List.getElem?_cons_zero];rfl) (by kernel_rfl) (by kernel_rfl) (by kernel_rfl) (by exact fun _ _ _ h=>h) (Or.inl ⟨by rfl,?_⟩) (by assumption) ?_
     rotate_left
     ·(intro w hSw;(try dsimp only at hSw);go_simp;(try with_reducible rfl))
     (try simp only [Act.put,List.setIfInBounds_toArray,List.set_cons_zero,List.set_cons_succ])
     refine wpAnyH_take (i:=4) (v:=?_) (by simp only [List.getElem?_toArray,List.getElem?_cons_succ,List.getElem?_cons_zero];rfl) (by kernel_rfl) (by kernel_rfl) (by kernel_rfl) (by exact fun _ _ _ h=>h) (Or.inl ⟨by rfl,?_⟩) (by assumption) ?_
     rotate_left
     ·(intro w hSw;(try dsimp only at hSw);go_simp;(try with_reducible rfl))
     (try simp only [Act.put,List.setIfInBounds_toArray,List.set_cons_zero,List.set_cons_succ])
     refine wpAnyH_take (i:=5) (v:=?_) (by simp only [List.getElem?_toArray,List.getElem?_cons_succ,List.getElem?_cons_zero];rfl) (by kernel_rfl) (by kernel_rfl) (by kernel_rfl) (by exact fun _ _ _ h=>h) (Or.inl ⟨by rfl,?_⟩) (by assumption) ?_
     rotate_left
     ·(intro w hSw;(try dsimp only at hSw);go_simp;(try with_reducible rfl))
     (try simp only [Act.put,List.setIfInBounds_toArray,List.set_cons_zero,List.set_cons_succ])
     refine wpAnyH_take (i:=6) (v:=?_) (by simp only [List.getElem?_toArray,List.getElem?_cons_succ,List.getElem?_cons_zero];rfl) (by kernel_rfl) (by kernel_rfl) (by kernel_rfl) (by exact fun _ _ _ h=>h) (Or.inl ⟨by rfl,?_⟩) (by assumption) ?_
     rotate_left
     ·(intro w hSw;(try dsimp only at hSw);go_simp;(try with_reducible rfl))
     (try simp only [Act.put,List.setIfInBounds_toArray,List.set_cons_zero,List.set_cons_succ])
     refine wpAnyH_take (i:=7) (v:=?_) (by simp only [List.getElem?_toArray,List.getElem?_cons_succ,List.getElem?_cons_zero];rfl) (by kernel_rfl) (by kernel_rfl) (by kernel_rfl) (by exact fun _ _ _ h=>h) (Or.inl ⟨by rfl,?_⟩) (by assumption) ?_
     rotate_left
     ·(intro w hSw;(try dsimp only at hSw);go_simp;(try with_reducible rfl))
     (try simp only [Act.put,List.setIfInBounds_toArray,List.set_cons_zero,List.set_cons_succ])
     refine wpAnyH_take (i:=8) (v:=?_) (by simp only [List.getElem?_toArray,List.getElem?_cons_succ,List.getElem?_cons_zero];rfl) (by kernel_rfl) (by kernel_rfl) (by kernel_rfl) (by exact fun _ _ _ h=>h) (Or.inl ⟨by rfl,?_⟩) (by assumption) ?_
     rotate_left
     ·(intro w hSw;(try dsimp only at hSw);go_simp;(try with_reducible rfl))
     (try simp only [Act.put,List.setIfInBounds_toArray,List.set_cons_zero,List.set_cons_succ])
     refine wpAnyH_take (i:=9) (v:=?_) (by simp only [List.getElem?_toArray,List.getElem?_cons_succ,List.getElem?_cons_zero];rfl) (by kernel_rfl) (by kernel_rfl) (by kernel_rfl) (by exact fun _ _ _ h=>h) (Or.inl ⟨by rfl,?_⟩) (by assumption) ?_
     rotate_left
     ·(intro w hSw;(try dsimp only at hSw);go_simp;(try with_reducible rfl))
     (try simp only [Act.put,List.setIfInBounds_toArray,List.set_cons_zero,List.set_cons_succ])
     refine wpAnyH_take (i:=10) (v:=?_) (by simp only [List.getElem?_toArray,List.getElem?_cons_succ,List.getElem?_cons_zero];rfl) (by kernel_rfl) (by kernel_rfl) (by kernel_rfl) (by exact fun _ _ _ h=>h) (Or.inl ⟨by rfl,?_⟩) (by assumption) ?_
     rotate_left
     ·(intro w hSw;(try dsimp only at hSw);go_simp;(try with_reducible rfl))
     (try simp only [Act.put,List.setIfInBounds_toArray,List.set_cons_zero,List.set_cons_succ])
     refine wpAnyH_take (i:=11) (v:=?_) (by simp only [List.getElem?_toArray,List.getElem?_cons_succ,List.getElem?_cons_zero];rfl) (by kernel_rfl) (by kernel_rfl) (by kernel_rfl) (by exact fun _ _ _ h=>h) (Or.inl ⟨by rfl,?_⟩) (by assumption) ?_
     rotate_left
     ·(intro w hSw;(try dsimp only at hSw);go_simp;(try with_reducible rfl))
     (try simp only [Act.put,List.setIfInBounds_toArray,List.set_cons_zero,List.set_cons_succ])
     refine wpAnyH_take (i:=12) (v:=?_) (by simp only [List.getElem?_toArray,List.getElem?_cons_succ,List.getElem?_cons_zero];rfl) (by kernel_rfl) (by kernel_rfl) (by kernel_rfl) (by exact fun _ _ _ h=>h) (Or.inl ⟨by rfl,?_⟩) (by assumption) ?_
     rotate_left
     ·(intro w hSw;(try dsimp only at hSw);go_simp;(try with_reducible rfl))
     (try simp only [Act.put,List.setIfInBounds_toArray,List.set_cons_zero,List.set_cons_succ])
     refine wpAnyH_take (i:=13) (v:=?_) (by simp only [List.getElem?_toArray,List.getElem?_cons_succ,List.getElem?_cons_zero];rfl) (by kernel_rfl) (by kernel_rfl) (by kernel_rfl) (by exact fun _ _ _ h=>h) (Or.inl ⟨by rfl,?_⟩) (by assumption) ?_
     rotate_left
     ·(intro w hSw;(try dsimp only at hSw);go_simp;(try with_reducible rfl))
     (try simp only [Act.put,List.setIfInBounds_toArray,List.set_cons_zero,List.set_cons_succ])
     refine wpAnyH_take (i:=14) (v:=?_) (by simp only [List.getElem?_toArray,List.getElem?_cons_succ,List.getElem?_cons_zero];rfl) (by kernel_rfl) (by kernel_rfl) (by kernel_rfl) (by exact fun _ _ _ h=>h) (Or.inl ⟨by rfl,?_⟩) (by assumption) ?_
     rotate_left
     ·(intro w hSw;(try dsimp only at hSw);go_simp;(try with_reducible rfl))
     (try simp only [Act.put,List.setIfInBounds_toArray,List.set_cons_zero,List.set_cons_succ])
     refine wpAnyH_take (i:=15) (v:=?_) (by simp only [List.getElem?_toArray,List.getElem?_cons_succ,List.getElem?_cons_zero];rfl) (by kernel_rfl) (by kernel_rfl) (by kernel_rfl) (by exact fun _ _ _ h=>h) (Or.inl ⟨by rfl,?_⟩) (by assumption) ?_
     rotate_left
     ·(intro w hSw;(try dsimp only at hSw);go_simp;(try with_reducible rfl))
     (try simp only [Act.put,List.setIfInBounds_toArray,List.set_cons_zero,List.set_cons_succ])
     refine wpAnyH_take (i:=16) (v:=?_) (by simp only [List.getElem?_toArray,List.getElem?_cons_succ,List.getElem?_cons_zero];rfl) (by kernel_rfl) (by kernel_rfl) (by kernel_rfl) (by exact fun _ _ _ h=>h) (Or.inl ⟨by rfl,?_⟩) (by assumption) ?_
     rotate_left
     ·(intro w hSw;(try dsimp only at hSw);go_simp;(try with_reducible rfl))
     (try simp only [Act.put,List.setIfInBounds_toArray,List.set_cons_zero,List.set_cons_succ])
     refine wpAnyH_take (i:=17) (v:=?_) (by simp only [List.getElem?_toArray,List.getElem?_cons_succ,List.getElem?_cons_zero];rfl) (by kernel_rfl) (by kernel_rfl) (by kernel_rfl) (by exact fun _ _ _ h=>h) (Or.inl ⟨by rfl,?_⟩) (by assumption) ?_
     rotate_left
     ·(intro w hSw;(try dsimp only at hSw);go_simp;(try with_reducible rfl))
     (try simp only [Act.put,List.setIfInBounds_toArray,List.set_cons_zero,List.set_cons_succ])
     refine wpAnyH_take (i:=18) (v:=?_) (by simp only [List.getElem?_toArray,List.getElem?_cons_succ,List.getElem?_cons_zero];rfl) (by kernel_rfl) (by kernel_rfl) (by kernel_rfl) (by exact fun _ _ _ h=>h) (Or.inl ⟨by rfl,?_⟩) (by assumption) ?_
     rotate_left
     ·(intro w hSw;(try dsimp only at hSw);go_simp;(try with_reducible rfl))
     (try simp only [Act.put,List.setIfInBounds_toArray,List.set_cons_zero,List.set_cons_succ])
     refine wpAnyH_ready (rs:=[19]) (by kernel_rfl) (by simp) (AllReadyH.cons (by simp only [List.getElem?_toArray,List.getElem?_cons_succ,List.getElem?_cons_zero];rfl) (fun K hK=>?_) AllReadyH.nil)
     go_simp
     refine hK.out _ _ (HSK.out _ HN6.out.drew) (fun hHeld=>?_)
     clear hK K
     (try simp only [Act.put,List.setIfInBounds_toArray,List.set_cons_zero,List.set_cons_succ])
     refine wpAnyH_ready (rs:=[20]) (by kernel_rfl) (by simp) (AllReadyH.cons (by simp only [List.getElem?_toArray,List.getElem?_cons_succ,List.getElem?_cons_zero];rfl) (fun K hK=>?_) AllReadyH.nil)
     go_simp
     refine HLN.out.mono ?_
     rintro e w7 ⟨rfl,hb7⟩
     refine hK.out _ _ (HSK.out _ (below_lift HN6.out.drew hb7)) (fun hHeld=>?_)
     clear hK K
     (try simp only [Act.put,List.setIfInBounds_toArray,List.set_cons_zero,List.set_cons_succ])
     refine wpAnyH_take (i:=21) (v:=?_) (by simp only [List.getElem?_toArray,List.getElem?_cons_succ,List.getElem?_cons_zero];rfl) (by kernel_rfl) (by kernel_rfl) (by kernel_rfl) (by exact fun _ _ _ h=>h) (Or.inl ⟨by rfl,?_⟩) (by assumption) ?_
     rotate_left
     ·(intro w hSw;(try dsimp only at hSw);go_simp;(try with_reducible rfl))
     (try simp only [Act.put,List.setIfInBounds_toArray,List.set_cons_zero,List.set_cons_succ])
     refine wpAnyH_take (i:=22) (v:=?_) (by simp only [List.getElem?_toArray,List.getElem?_cons_succ,List.getElem?_cons_zero];rfl) (by kernel_rfl) (by kernel_rfl) (by kernel_rfl) (by exact fun _ _ _ h=>h) (Or.inl ⟨by rfl,?_⟩) (by assumption) ?_
     rotate_left
     ·(intro w hSw;(try dsimp only at hSw);go_simp;(try with_reducible rfl))
     (try simp only [Act.put,List.setIfInBounds_toArray,List.set_cons_zero,List.set_cons_succ])
     refine wpAnyH_done (by kernel_rfl) ?_ _
     have hb8:=below_lift HBN.out hb7
     go_wp2_with fail
     all_goals first
      |exact ⟨⟨k+1,by omega,by go_num,by rw [← HTK.out];try simp,hb8⟩,by simp [intOf];omega⟩
      |(go_roundw
        case rel=>exact ⟨k+1,by omega,by go_num,by rw [← HTK.out];try simp,hb8⟩
        case measure=>simp [intOf];omega)
    ·have hkl:¬ (k:Int)<(cuts.length:Int):=by omega
     have hke:k=cuts.length:=by omega
     subst hke
     rw [List.take_of_length_le (Nat.le_refl _)] at hsl ⊢
     have HNS2:=Lib.hid (show NS=(L0 ++ cuts.flatMap cutS) ++ dual.flatMap dualS from HNS1.out)
     clear HNS1
     generalize L0 ++ cuts.flatMap cutS=S0 at *
     have HBW:=Lib.hid hbel
     go_wp2_with fail
     clear a0 a1 a2 a3 a4 a5 a6 a7 a8 a9 hkl hk hbel hlt
     go_loopw [4,6] (fun s i wr=>∃ k:Nat,k≤dual.length∧i=.int .i64 k∧s=.string (B (S0 ++ (dual.take k).flatMap dualS))∧(dual.take k).all rightQ=true∧Below w5.heap.size w5 wr) (fun _ i _=>dual.length - (intOf i).toNat)
     case atStart=>exact ⟨0,by omega,rfl,by simp,rfl,HBW.out⟩
     case round =>
      obtain ⟨k,hk,rfl,rfl,hall,hbel⟩:=hrel
      have HALL:=Lib.hid hall
      clear hall HBW
      have hsl2:=flat_le2 dualS (b:=10020) (dual.take k) (fun d hd=>dualS_len (H3.out d (List.mem_of_mem_take hd))) 1000 (by rw [List.length_take_of_le hk];exact Nat.le_trans hk h2)
      have hsl2:(S0 ++ (dual.take k).flatMap dualS).length≤20000000:=by rw [List.length_append];omega
      obtain ⟨a0,a1,a2,a3,a4,a5,a6,a7,a8,a9⟩:=cells10 (row_keep HO5.out hbel)
      by_cases hlt:k<dual.length
      ·have hkl:(k:Int)<(dual.length:Int):=by omega
       obtain ⟨g1,o1,hC1,hg1,hx1⟩:=HN5.out.dual (by unfold strs;rw [List.length_map];exact Nat.lt_of_le_of_lt (Nat.zero_le _) hlt)
       change C=_ at hC1
       subst hC1
       have x0:=(hbel.cell (p:=⟨g1,o1+k,none⟩) hg1).trans (hx1 k (.string (B dual[k])) (by unfold strs;rw [List.getElem?_map,List.getElem?_eq_getElem hlt];rfl))
       have HTK:=Lib.hid (show S0 ++ (dual.take k).flatMap dualS ++ ([100,117,97,108,32] ++ dual[k] ++ [10])=S0 ++ (dual.take (k+1)).flatMap dualS by rw [List.append_assoc S0,← dualS_eq,flat_take dualS hlt])
       have hdl:=H3.out _ (List.getElem_mem hlt)
       have HAT:=Lib.hid (all_take hlt HALL.out)
       have HAN:=Lib.hid (all_not hlt)
       have HRQ:=Lib.hid (rrq_any dual[k] wr (by omega))
       clear hx1
       generalize dual[k]=d at *
       generalize rightQ d=rq at *
       generalize S0 ++ (dual.take k).flatMap dualS=S1 at *
       go_wp2_with fail
       refine HRQ.out.mono ?_
       rintro e w7 ⟨rfl,hb7⟩
       have x0:=(hb7.cell (p:=⟨g1,o1+k,none⟩) (Nat.lt_of_lt_of_le hg1 hbel.size)).trans x0
       have hbel7:=below_lift hbel hb7
       clear a0 a1 a2 a3 a4 a5 a6 a7 a8 a9 hb7 HRQ
       obtain ⟨a0,a1,a2,a3,a4,a5,a6,a7,a8,a9⟩:=cells10 (row_keep HO5.out hbel7)
       cases rq with
       |true =>
        go_wp2_with fail
        all_goals first
         |exact ⟨⟨k+1,by omega,by go_num,by rw [← HTK.out];try simp,HAT.out (by first | rfl | trivial),hbel7⟩,by simp [intOf];omega⟩
         |(go_roundw
           case rel=>exact ⟨k+1,by omega,by go_num,by rw [← HTK.out];try simp,HAT.out (by first | rfl | trivial),hbel7⟩
           case measure=>simp [intOf];omega)
       |false =>
        have HR:=Lib.hid (show R=([],3) by rw [HR1.out,HAN.out (by first | rfl | trivial)];rfl)
        go_wp2_with fail
        go_ret2
        rw [HR.out]
        exact ⟨rfl,below_lift HB5.out hbel7⟩
      ·have hkl:¬ (k:Int)<(dual.length:Int):=by omega
       have hke:k=dual.length:=by omega
       subst hke
       rw [List.take_of_length_le (Nat.le_refl _)] at hsl2 HALL ⊢
       have HR:=Lib.hid (show R=(S0 ++ dual.flatMap dualS,0) by rw [HR1.out,HALL.out,if_pos rfl,HNS2.out])
       generalize S0 ++ dual.flatMap dualS=S1 at *
       go_wp2_with fail
       go_ret2
       rw [HR.out]
       exact ⟨rfl,below_lift HB5.out hbel⟩
end Go.Proofs.YtljekdpgjaahjaaGreatDoor

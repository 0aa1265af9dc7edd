/- prooftext.line: a line of words, numbers and rational numbers. -/
import Derived.Test.YtljekdpgjaahjaaGreatDoorG55
import Derived.Test.YtljekdpgjaahjaaGreatDoorG64
import Derived.Test.YtljekdpgjaahjaaGreatDoorG56
namespace Go.Proofs.YtljekdpgjaahjaaGreatDoor
open Go.RowKit Num Txt Pf
set_option linter.unusedVariables false
attribute [local go_sem] B_size B_get B_toList B_mk B_extract B_append
inductive PartV where
 |num (n:Int)
 |rat (s:Str)
 |str (s:Str)
def ptC:PartV→Value
 |.num n=>.iface 3 (.int .i64 n)
 |.rat s=>.iface 46 (.string (B s))
 |.str s=>.iface 9 (.string (B s))
def ptS:PartV→Str
 |.num n=>decI n
 |.rat s=>s
 |.str s=>s
def ptF:PartV→Prop
 |.num n=>fits n
 |_=>True
theorem as_int_int (v:Value) (w:World):(Instr.typeAssert (.iface 3 v) 20 3 true).run Tryz.prog w=.ok (.tuple #[v,.bool true]) w:=by kernel_rfl
theorem as_int_rat (v:Value) (w:World):(Instr.typeAssert (.iface 3 v) 20 46 true).run Tryz.prog w=.ok (.tuple #[.string (B []),.bool false]) w:=by kernel_rfl
theorem as_int_str (v:Value) (w:World):(Instr.typeAssert (.iface 3 v) 20 9 true).run Tryz.prog w=.ok (.tuple #[.string (B []),.bool false]) w:=by kernel_rfl
theorem as_rat_int (v:Value) (w:World):(Instr.typeAssert (.iface 46 v) 20 3 true).run Tryz.prog w=.ok (.tuple #[.int .i64 0,.bool false]) w:=by kernel_rfl
theorem as_rat_rat (v:Value) (w:World):(Instr.typeAssert (.iface 46 v) 20 46 true).run Tryz.prog w=.ok (.tuple #[v,.bool true]) w:=by kernel_rfl
theorem as_rat_str (v:Value) (w:World):(Instr.typeAssert (.iface 46 v) 20 9 true).run Tryz.prog w=.ok (.tuple #[.string (B []),.bool false]) w:=by kernel_rfl
theorem as_str_int (v:Value) (w:World):(Instr.typeAssert (.iface 9 v) 20 3 true).run Tryz.prog w=.ok (.tuple #[.int .i64 0,.bool false]) w:=by kernel_rfl
theorem as_str_rat (v:Value) (w:World):(Instr.typeAssert (.iface 9 v) 20 46 true).run Tryz.prog w=.ok (.tuple #[.string (B []),.bool false]) w:=by kernel_rfl
theorem as_str_str (v:Value) (w:World):(Instr.typeAssert (.iface 9 v) 20 9 true).run Tryz.prog w=.ok (.tuple #[v,.bool true]) w:=by kernel_rfl
attribute [local go_sem] as_int_int as_int_rat as_int_str as_rat_int as_rat_rat as_rat_str as_str_int as_str_rat as_str_str
theorem take_map {ps:List PartV} {k:Nat} (h:k<ps.length):(ps.take k).map ptS ++ [ptS ps[k]]=(ps.take (k+1)).map ptS:=by
 rw [List.take_succ_eq_append_getElem h,List.map_append];rfl
set_option maxHeartbeats 4000000 in
set_option maxRecDepth 100000 in
theorem line_any (ps:List PartV) (A:Option Addr) (c:Nat) (w:World) (hc:Cells w A (ps.map ptC)) (hn:ps.length≤c∧c≤maxLen) (hl:ps.length≤100) (hf:∀ p ∈ ps,ptF p) (hs:(joinP (ps.map ptS)).length≤1000000) (ht:Tab w) :
  Calls Tryz.prog 27 #[.slice A ps.length c] w fun e w'=>e=.returned (.string (B (lineS (ps.map ptS))))∧Below w.heap.size w w':=by
 unfold maxLen at hn
 have HC:=Lib.hid hc
 have HF:=Lib.hid hf
 have HT:=Lib.hid ht
 clear hc hf ht
 go_enter Tryz.func27,Tryz.ntmps27
 simp only [B_mk]
 go_wp2_with fail
 go_loopw [3,5,6,7,8,9,10,11,14] (fun o _ _ _ _ _ _ _ i wr=>∃ (k:Nat) (X:Option Addr) (cx:Nat),k≤ps.length∧i=.int .i64 k∧o=.slice X k cx∧OwnS wr w.heap.size 9 X k cx (strs ((ps.take k).map ptS))∧Below w.heap.size w wr) (fun _ _ _ _ _ _ _ _ i _=>ps.length - (intOf i).toNat)
 case atStart=>exact ⟨0,none,0,by omega,rfl,rfl,OwnS.nil _ _ _,Below.refl _ _⟩
 case round =>
  obtain ⟨k,X,cx,hk,rfl,rfl,hown,hbel⟩:=hrel
  by_cases hlt:k<ps.length
  ·have hkl:(k:Int)<(ps.length:Int):=by omega
   obtain ⟨b,o,hA,hb,hx⟩:=HC.out (by rw [List.length_map];omega)
   have x0:wr.cell? ⟨b,o+k,none⟩=some (ptC ps[k]):=(hbel.cell (p:=⟨b,o+k,none⟩) hb).trans (hx k _ (by rw [List.getElem?_map,List.getElem?_eq_getElem hlt];rfl))
   have hfk:=HF.out _ (List.getElem_mem hlt)
   have HTK:=Lib.hid (take_map hlt)
   subst hA
   clear hx
   generalize ps[k]=p at *
   have HTW:=Lib.hid (HT.out.below hbel)
   cases p with
   |num n =>
    change wr.cell? ⟨b,o+k,none⟩=some (.iface 3 (.int .i64 n)) at x0
    change fits n at hfk
    have HTK:=Lib.hid (show (ps.take k).map ptS ++ [decI n]=(ps.take (k+1)).map ptS from HTK.out)
    go_wp2_with fail
    refine (decimal_any n wr hfk HTW.out).mono ?_
    rintro e w2 ⟨rfl,hb2⟩
    have hown2:=hown.below hb2
    have hbel2:=hbel.trans (hb2.mono hbel.size)
    clear hown hb2 hbel x0
    go_wp2_with (at_builtin;refine wp_app1 el_string rfl _ _ rfl w.heap.size _ _ _ (strs ((ps.take k).map ptS)) _ (.string (B (decI n))) rfl hown2 rfl rfl (by unfold maxLen;omega) (by omega) hbel2.size ?_;intro A' c' w3 hown3 hb3)
    go_roundw
    case rel =>
     rw [snoc_strs,HTK.out] at hown3
     exact ⟨k+1,A',c',by omega,by go_num,rfl,hown3,hbel2.trans hb3⟩
    case measure=>simp [intOf];omega
   |rat s =>
    change wr.cell? ⟨b,o+k,none⟩=some (.iface 46 (.string (B s))) at x0
    have HTK:=Lib.hid (show (ps.take k).map ptS ++ [s]=(ps.take (k+1)).map ptS from HTK.out)
    go_wp2_with (at_builtin;refine wp_app1 el_string rfl _ _ rfl w.heap.size _ _ _ (strs ((ps.take k).map ptS)) _ (.string (B s)) rfl hown rfl rfl (by unfold maxLen;omega) (by omega) hbel.size ?_;intro A' c' w3 hown3 hb3)
    go_roundw
    case rel =>
     rw [snoc_strs,HTK.out] at hown3
     exact ⟨k+1,A',c',by omega,by go_num,rfl,hown3,hbel.trans hb3⟩
    case measure=>simp [intOf];omega
   |str s =>
    change wr.cell? ⟨b,o+k,none⟩=some (.iface 9 (.string (B s))) at x0
    have HTK:=Lib.hid (show (ps.take k).map ptS ++ [s]=(ps.take (k+1)).map ptS from HTK.out)
    go_wp2_with (at_builtin;refine wp_app1 el_string rfl _ _ rfl w.heap.size _ _ _ (strs ((ps.take k).map ptS)) _ (.string (B s)) rfl hown rfl rfl (by unfold maxLen;omega) (by omega) hbel.size ?_;intro A' c' w3 hown3 hb3)
    go_roundw
    case rel =>
     rw [snoc_strs,HTK.out] at hown3
     exact ⟨k+1,A',c',by omega,by go_num,rfl,hown3,hbel.trans hb3⟩
    case measure=>simp [intOf];omega
  ·have hkl:¬ (k:Int)<(ps.length:Int):=by omega
   have hkn:k=ps.length:=by omega
   subst hkn
   rw [List.take_of_length_le (Nat.le_refl _)] at hown
   have hjl:(ps.map ptS).length=ps.length:=List.length_map _
   have HJ:=Lib.hid (join_any (ps.map ptS) X cx wr hown.cells (by rw [hjl];exact hown.cap.1) (by omega) (by omega))
   rw [hjl] at HJ
   clear hlt
   go_wp2_with fail
   refine HJ.out.mono ?_
   rintro e w2 ⟨rfl,hb2⟩
   go_wp2_with fail
   go_ret
   exact ⟨rfl,hbel.trans (hb2.mono hbel.size)⟩
end Go.Proofs.YtljekdpgjaahjaaGreatDoor
namespace Go.Proofs.YtljekdpgjaahjaaGreatDoor
open Go.RowKit Num Txt Pf
set_option linter.unusedVariables false
attribute [local go_sem] B_size B_get B_toList B_mk B_extract B_append
set_option maxHeartbeats 2000000 in
theorem foreign_any (m:NodeM) (w:World) (h:NodeAt w m) :
  Calls Tryz.prog 22 #[nodeA m] w fun e w'=>e=.returned (.bool (foreign m.n))∧Below w.heap.size w w':=by
 obtain ⟨bw,o1⟩:=new_at w (nodeB m)
 have HB:=Lib.hid bw
 have HO:=Lib.hid o1
 have l1:=h.cl
 have l2:=h.dl
 unfold maxLen at l1 l2
 clear h bw o1
 generalize hfr:foreign m.n=fr
 have HFR:=Lib.hid hfr
 clear hfr
 obtain ⟨A,cA,C,cC,⟨leaf,kind,cuts,dual,ck,ca,cb,cn,yes,no⟩⟩:=m
 simp only at l1 l2
 go_enter Tryz.func22,Tryz.ntmps22
 go_upto_region 1 with fail
 generalize (w.alloc _)=wB at *
 obtain ⟨a0,a1,a2,a3,a4,a5,a6,a7,a8,a9⟩:=cells10 HO.out
 cases leaf with
 |true =>
  by_cases h:ck=0
  ·subst h
   by_cases h:ca=0
   ·subst h
    by_cases h:cb=0
    ·subst h
     by_cases h:cn=0
     ·subst h
      by_cases h:yes=0
      ·subst h
       by_cases h:no=0
       ·subst h
        have hf:foreign ⟨true,kind,cuts,dual,0,0,0,0,0,0⟩=false:=rfl
        obtain rfl:fr=false:=HFR.out.symm.trans hf
        clear hf
        go_wp2_with fail
        go_ret
        exact ⟨rfl,HB.out⟩
       ·have hf:foreign ⟨true,kind,cuts,dual,0,0,0,0,0,no⟩=true:=by unfold foreign;simp [h]
        have e1:(no == 0)=false:=by rw [beq_eq_false_iff_ne];exact h
        have e2:(no != 0)=true:=by rw [bne_iff_ne];exact h
        obtain rfl:fr=true:=HFR.out.symm.trans hf
        clear h hf
        go_wp2_with fail
        go_ret
        exact ⟨rfl,HB.out⟩
      ·have hf:foreign ⟨true,kind,cuts,dual,0,0,0,0,yes,no⟩=true:=by unfold foreign;simp [h]
       have e1:(yes == 0)=false:=by rw [beq_eq_false_iff_ne];exact h
       have e2:(yes != 0)=true:=by rw [bne_iff_ne];exact h
       obtain rfl:fr=true:=HFR.out.symm.trans hf
       clear h hf
       go_wp2_with fail
       go_ret
       exact ⟨rfl,HB.out⟩
     ·have hf:foreign ⟨true,kind,cuts,dual,0,0,0,cn,yes,no⟩=true:=by unfold foreign;simp [h]
      have e1:(cn == 0)=false:=by rw [beq_eq_false_iff_ne];exact h
      have e2:(cn != 0)=true:=by rw [bne_iff_ne];exact h
      obtain rfl:fr=true:=HFR.out.symm.trans hf
      clear h hf
      go_wp2_with fail
      go_ret
      exact ⟨rfl,HB.out⟩
    ·have hf:foreign ⟨true,kind,cuts,dual,0,0,cb,cn,yes,no⟩=true:=by unfold foreign;simp [h]
     have e1:(cb == 0)=false:=by rw [beq_eq_false_iff_ne];exact h
     have e2:(cb != 0)=true:=by rw [bne_iff_ne];exact h
     obtain rfl:fr=true:=HFR.out.symm.trans hf
     clear h hf
     go_wp2_with fail
     go_ret
     exact ⟨rfl,HB.out⟩
   ·have hf:foreign ⟨true,kind,cuts,dual,0,ca,cb,cn,yes,no⟩=true:=by unfold foreign;simp [h]
    have e1:(ca == 0)=false:=by rw [beq_eq_false_iff_ne];exact h
    have e2:(ca != 0)=true:=by rw [bne_iff_ne];exact h
    obtain rfl:fr=true:=HFR.out.symm.trans hf
    clear h hf
    go_wp2_with fail
    go_ret
    exact ⟨rfl,HB.out⟩
  ·have hf:foreign ⟨true,kind,cuts,dual,ck,ca,cb,cn,yes,no⟩=true:=by unfold foreign;simp [h]
   have e1:(ck == 0)=false:=by rw [beq_eq_false_iff_ne];exact h
   have e2:(ck != 0)=true:=by rw [bne_iff_ne];exact h
   obtain rfl:fr=true:=HFR.out.symm.trans hf
   clear h hf
   go_wp2_with fail
   go_ret
   exact ⟨rfl,HB.out⟩
 |false =>
  by_cases h:kind=0
  ·subst h
   cases cuts with
   |nil =>
    cases dual with
    |nil =>
     have hf:foreign ⟨false,0,[],[],ck,ca,cb,cn,yes,no⟩=false:=rfl
     obtain rfl:fr=false:=HFR.out.symm.trans hf
     clear hf
     go_wp2_with fail
     go_ret
     exact ⟨rfl,HB.out⟩
    |cons x l =>
     have hf:foreign ⟨false,0,[],x :: l,ck,ca,cb,cn,yes,no⟩=true:=by unfold foreign;simp
     have e1:(0:Int)<((x :: l).length:Int):=by rw [List.length_cons];omega
     have e2:0<(x :: l).length:=by rw [List.length_cons];omega
     have e3:decide (0<(x :: l).length)=true:=by rw [decide_eq_true e2]
     obtain rfl:fr=true:=HFR.out.symm.trans hf
     clear hf
     generalize hg:(x :: l)=z at *
     clear hg
     go_wp2_with fail
     go_ret
     exact ⟨rfl,HB.out⟩
   |cons x l =>
    have hf:foreign ⟨false,0,x :: l,dual,ck,ca,cb,cn,yes,no⟩=true:=by unfold foreign;simp
    have e1:(0:Int)<((x :: l).length:Int):=by rw [List.length_cons];omega
    have e2:0<(x :: l).length:=by rw [List.length_cons];omega
    have e3:decide (0<(x :: l).length)=true:=by rw [decide_eq_true e2]
    obtain rfl:fr=true:=HFR.out.symm.trans hf
    clear hf
    generalize hg:(x :: l)=z at *
    clear hg
    go_wp2_with fail
    go_ret
    exact ⟨rfl,HB.out⟩
  ·have hf:foreign ⟨false,kind,cuts,dual,ck,ca,cb,cn,yes,no⟩=true:=by unfold foreign;simp [h]
   have e1:(kind == 0)=false:=by rw [beq_eq_false_iff_ne];exact h
   have e2:(kind != 0)=true:=by rw [bne_iff_ne];exact h
   obtain rfl:fr=true:=HFR.out.symm.trans hf
   clear h hf
   go_wp2_with fail
   go_ret
   exact ⟨rfl,HB.out⟩
set_option maxHeartbeats 2000000 in
theorem rforeign_any (m:NodeM) (w:World) (h:NodeAt w m) :
  Calls Tryz.prog 65 #[nodeA m] w fun e w'=>e=.returned (.bool (foreign m.n))∧Below w.heap.size w w':=by
 obtain ⟨bw,o1⟩:=new_at w (nodeB m)
 have HB:=Lib.hid bw
 have HO:=Lib.hid o1
 have l1:=h.cl
 have l2:=h.dl
 unfold maxLen at l1 l2
 clear h bw o1
 generalize hfr:foreign m.n=fr
 have HFR:=Lib.hid hfr
 clear hfr
 obtain ⟨A,cA,C,cC,⟨leaf,kind,cuts,dual,ck,ca,cb,cn,yes,no⟩⟩:=m
 simp only at l1 l2
 go_enter Tryz.func65,Tryz.ntmps65
 go_upto_region 1 with fail
 generalize (w.alloc _)=wB at *
 obtain ⟨a0,a1,a2,a3,a4,a5,a6,a7,a8,a9⟩:=cells10 HO.out
 cases leaf with
 |true =>
  by_cases h:ck=0
  ·subst h
   by_cases h:ca=0
   ·subst h
    by_cases h:cb=0
    ·subst h
     by_cases h:cn=0
     ·subst h
      by_cases h:yes=0
      ·subst h
       by_cases h:no=0
       ·subst h
        have hf:foreign ⟨true,kind,cuts,dual,0,0,0,0,0,0⟩=false:=rfl
        obtain rfl:fr=false:=HFR.out.symm.trans hf
        clear hf
        go_wp2_with fail
        go_ret
        exact ⟨rfl,HB.out⟩
       ·have hf:foreign ⟨true,kind,cuts,dual,0,0,0,0,0,no⟩=true:=by unfold foreign;simp [h]
        have e1:(no == 0)=false:=by rw [beq_eq_false_iff_ne];exact h
        have e2:(no != 0)=true:=by rw [bne_iff_ne];exact h
        obtain rfl:fr=true:=HFR.out.symm.trans hf
        clear h hf
        go_wp2_with fail
        go_ret
        exact ⟨rfl,HB.out⟩
      ·have hf:foreign ⟨true,kind,cuts,dual,0,0,0,0,yes,no⟩=true:=by unfold foreign;simp [h]
       have e1:(yes == 0)=false:=by rw [beq_eq_false_iff_ne];exact h
       have e2:(yes != 0)=true:=by rw [bne_iff_ne];exact h
       obtain rfl:fr=true:=HFR.out.symm.trans hf
       clear h hf
       go_wp2_with fail
       go_ret
       exact ⟨rfl,HB.out⟩
     ·have hf:foreign ⟨true,kind,cuts,dual,0,0,0,cn,yes,no⟩=true:=by unfold foreign;simp [h]
      have e1:(cn == 0)=false:=by rw [beq_eq_false_iff_ne];exact h
      have e2:(cn != 0)=true:=by rw [bne_iff_ne];exact h
      obtain rfl:fr=true:=HFR.out.symm.trans hf
      clear h hf
      go_wp2_with fail
      go_ret
      exact ⟨rfl,HB.out⟩
    ·have hf:foreign ⟨true,kind,cuts,dual,0,0,cb,cn,yes,no⟩=true:=by unfold foreign;simp [h]
     have e1:(cb == 0)=false:=by rw [beq_eq_false_iff_ne];exact h
     have e2:(cb != 0)=true:=by rw [bne_iff_ne];exact h
     obtain rfl:fr=true:=HFR.out.symm.trans hf
     clear h hf
     go_wp2_with fail
     go_ret
     exact ⟨rfl,HB.out⟩
   ·have hf:foreign ⟨true,kind,cuts,dual,0,ca,cb,cn,yes,no⟩=true:=by unfold foreign;simp [h]
    have e1:(ca == 0)=false:=by rw [beq_eq_false_iff_ne];exact h
    have e2:(ca != 0)=true:=by rw [bne_iff_ne];exact h
    obtain rfl:fr=true:=HFR.out.symm.trans hf
    clear h hf
    go_wp2_with fail
    go_ret
    exact ⟨rfl,HB.out⟩
  ·have hf:foreign ⟨true,kind,cuts,dual,ck,ca,cb,cn,yes,no⟩=true:=by unfold foreign;simp [h]
   have e1:(ck == 0)=false:=by rw [beq_eq_false_iff_ne];exact h
   have e2:(ck != 0)=true:=by rw [bne_iff_ne];exact h
   obtain rfl:fr=true:=HFR.out.symm.trans hf
   clear h hf
   go_wp2_with fail
   go_ret
   exact ⟨rfl,HB.out⟩
 |false =>
  by_cases h:kind=0
  ·subst h
   cases cuts with
   |nil =>
    cases dual with
    |nil =>
     have hf:foreign ⟨false,0,[],[],ck,ca,cb,cn,yes,no⟩=false:=rfl
     obtain rfl:fr=false:=HFR.out.symm.trans hf
     clear hf
     go_wp2_with fail
     go_ret
     exact ⟨rfl,HB.out⟩
    |cons x l =>
     have hf:foreign ⟨false,0,[],x :: l,ck,ca,cb,cn,yes,no⟩=true:=by unfold foreign;simp
     have e1:(0:Int)<((x :: l).length:Int):=by rw [List.length_cons];omega
     have e2:0<(x :: l).length:=by rw [List.length_cons];omega
     have e3:decide (0<(x :: l).length)=true:=by rw [decide_eq_true e2]
     obtain rfl:fr=true:=HFR.out.symm.trans hf
     clear hf
     generalize hg:(x :: l)=z at *
     clear hg
     go_wp2_with fail
     go_ret
     exact ⟨rfl,HB.out⟩
   |cons x l =>
    have hf:foreign ⟨false,0,x :: l,dual,ck,ca,cb,cn,yes,no⟩=true:=by unfold foreign;simp
    have e1:(0:Int)<((x :: l).length:Int):=by rw [List.length_cons];omega
    have e2:0<(x :: l).length:=by rw [List.length_cons];omega
    have e3:decide (0<(x :: l).length)=true:=by rw [decide_eq_true e2]
    obtain rfl:fr=true:=HFR.out.symm.trans hf
    clear hf
    generalize hg:(x :: l)=z at *
    clear hg
    go_wp2_with fail
    go_ret
    exact ⟨rfl,HB.out⟩
  ·have hf:foreign ⟨false,kind,cuts,dual,ck,ca,cb,cn,yes,no⟩=true:=by unfold foreign;simp [h]
   have e1:(kind == 0)=false:=by rw [beq_eq_false_iff_ne];exact h
   have e2:(kind != 0)=true:=by rw [bne_iff_ne];exact h
   obtain rfl:fr=true:=HFR.out.symm.trans hf
   clear h hf
   go_wp2_with fail
   go_ret
   exact ⟨rfl,HB.out⟩
theorem cells_obj {w:World} {g:Nat} {l:List Value} {t:TypeId} (h:w.heap[g]? = some (.cells l.toArray t)):Cells w (some ⟨g,0,none⟩) l:=fun _ =>
 ⟨g,0,rfl,lt_heap h,fun j u hu=>by rw [Nat.zero_add,obj_cell h j];simpa using hu⟩
theorem len_word {p:PartV} (h:(∃ n,p=.num n∧fits n)∨∃ s,p=.str s∧s.length≤21):ptF p∧(ptS p).length≤21:=by
 rcases h with ⟨n,rfl,h⟩ | ⟨s,rfl,h⟩
 ·exact ⟨h,Pf.decI_len h⟩
 ·exact ⟨trivial,h⟩
theorem line_new {ps:List PartV} {g:Nat} {w:World} (ho:w.heap[g]? = some (.cells (ps.map ptC).toArray 20)) (hl:ps.length≤100) (hf:∀ p ∈ ps,ptF p) (hs:(joinP (ps.map ptS)).length≤1000000) (ht:Tab w) :
  Calls Tryz.prog 27 #[.slice (some ⟨g,0,none⟩) ps.length ps.length] w fun e w'=>e=.returned (.string (B (lineS (ps.map ptS))))∧Below w.heap.size w w' :=
 line_any ps _ _ w (cells_obj ho) ⟨Nat.le_refl _,by unfold maxLen;omega⟩ hl hf hs ht
theorem joinS_len {ws:List Str} {k:Nat} (h:∀ w ∈ ws,w.length≤k):(joinP ws).length≤ws.length*(k+1):=join_len h
theorem cells_four {w:World} {g:Nat} {a b c d:Value} {t:TypeId} (h:w.heap[g]? = some (.cells #[a,b,c,d] t)):w.cell? ⟨g,0,none⟩=some a∧w.cell? ⟨g,1,none⟩=some b∧w.cell? ⟨g,2,none⟩=some c∧w.cell? ⟨g,3,none⟩=some d:=cells4 h
theorem line_len {ws:List Str} {k:Nat} (h:∀ w ∈ ws,w.length≤k):(lineS ws).length≤ws.length*(k+1)+1:=by
 unfold lineS
 rw [List.length_append]
 exact Nat.add_le_add_right (join_len h) 1
theorem flat_le {α} (f:α→Str) {b:Nat}:∀ l:List α,(∀ x ∈ l,(f x).length≤b)→(l.flatMap f).length≤l.length*b
 |[],_=>by simp
 |x :: l,h=>by
  rw [List.flatMap_cons,List.length_append,List.length_cons,Nat.succ_mul]
  have h1:=h x (List.mem_cons_self ..)
  have h2:=flat_le f l fun y hy=>h y (List.mem_cons_of_mem _ hy)
  omega
theorem flat_take {α} (f:α→Str) {l:List α} {k:Nat} (h:k<l.length):(l.take k).flatMap f ++ f l[k]=(l.take (k+1)).flatMap f:=by
 rw [List.take_succ_eq_append_getElem h,List.flatMap_append];simp
theorem cutS_len {c:Int × Int × Int} (h:fits c.1∧fits c.2.1∧fits c.2.2):(cutS c).length≤100:=by
 unfold cutS
 refine Nat.le_trans (line_len (k:=21) fun x hx=>?_) (show 4*(21+1)+1≤100 by decide)
 simp only [List.mem_cons,List.not_mem_nil,or_false] at hx
 rcases hx with rfl | rfl | rfl | rfl
 ·decide
 ·exact Pf.decI_len h.1
 ·exact Pf.decI_len h.2.1
 ·exact Pf.decI_len h.2.2
theorem dualS_len {d:Str} {n:Nat} (h:d.length≤n):(dualS d).length≤n+20:=by
 unfold dualS lineS joinP
 have:joinP [d]=d:=rfl
 simp only [List.length_append,List.length_cons,List.length_nil] at *
 first | (rw [this];omega) | omega
set_option maxHeartbeats 4000000 in
set_option maxRecDepth 100000 in
theorem pnode_any (m:NodeM) (w:World) (h:NodeAt w m) (h1:m.n.cuts.length≤100000) (h2:m.n.dual.length≤100000) (h3:∀ d ∈ m.n.dual,d.length≤100000) (ht:Tab w) :
  Calls Tryz.prog 26 #[nodeA m] w fun e w'=>e=.returned (.string (B (nodeS m.n)))∧Below w.heap.size w w':=by
 obtain ⟨bw,o1⟩:=new_at w (nodeB m)
 have HB:=Lib.hid bw
 have HO:=Lib.hid o1
 have l1:=h.cl
 have l2:=h.dl
 unfold maxLen at l1 l2
 have HN:=Lib.hid (h.below bw)
 have HT:=Lib.hid (ht.below bw)
 generalize hns:nodeS m.n=ns
 have HNS:=Lib.hid hns
 clear h bw o1 ht hns
 obtain ⟨A,cA,C,cC,⟨leaf,kind,cuts,dual,ck,ca,cb,cn,yes,no⟩⟩:=m
 simp only at l1 l2 h1 h2 h3
 go_enter Tryz.func26,Tryz.ntmps26
 simp only [B_mk]
 go_upto_region 1 with fail
 generalize (w.alloc _)=wB at *
 obtain ⟨a0,a1,a2,a3,a4,a5,a6,a7,a8,a9⟩:=cells10 HO.out
 cases leaf with
 |false =>
  go_upto_region 3 with fail
  obtain ⟨n2,p2⟩:=new_at wB (.cells #[.int .i64 ck,.int .i64 ca,.int .i64 cb,.int .i64 cn] 43)
  generalize wB.alloc (.cells #[.int .i64 ck,.int .i64 ca,.int .i64 cb,.int .i64 cn] 43)=w2 at *
  clear a0 a1 a2 a3 a4 a5 a6 a7 a8 a9
  obtain ⟨a0,a1,a2,a3,a4,a5,a6,a7,a8,a9⟩:=cells10 (row_keep HO.out n2)
  obtain ⟨d0,d1,d2,d3⟩:=cells4 p2
  go_wp2_with fail
  have HL:=Lib.hid (line_new (w:=w2.alloc (.cells #[.iface 9 (.string (B nodeW)),.iface 3 (.int .i64 ck),.iface 3 (.int .i64 ca),.iface 3 (.int .i64 cb),.iface 3 (.int .i64 cn),.iface 3 (.int .i64 yes),.iface 3 (.int .i64 no)] 20)) (g:=w2.heap.size) (ps:=[.str nodeW,.num ck,.num ca,.num cb,.num cn,.num yes,.num no]) (new_at w2 _).2 (by simp) (by
   intro p hp
   simp only [List.mem_cons,List.not_mem_nil,or_false] at hp
   rcases hp with rfl | rfl | rfl | rfl | rfl | rfl | rfl
   ·trivial
   ·exact HN.out.ck
   ·exact HN.out.ca
   ·exact HN.out.cb
   ·exact HN.out.cn
   ·exact HN.out.yes
   ·exact HN.out.no) (by
   refine Nat.le_trans (join_len (k:=21) fun x hx=>?_) (show 7*(21+1)≤1000000 by decide)
   simp only [List.map_cons,List.map_nil,ptS,List.mem_cons,List.not_mem_nil,or_false] at hx
   rcases hx with rfl | rfl | rfl | rfl | rfl | rfl | rfl
   ·decide
   ·exact Pf.decI_len HN.out.ck
   ·exact Pf.decI_len HN.out.ca
   ·exact Pf.decI_len HN.out.cb
   ·exact Pf.decI_len HN.out.cn
   ·exact Pf.decI_len HN.out.yes
   ·exact Pf.decI_len HN.out.no) ((HT.out.below n2).below (new_at w2 _).1))
  have hb2:=below_lift (below_lift HB.out n2) (new_at w2 (.cells #[.iface 9 (.string (B nodeW)),.iface 3 (.int .i64 ck),.iface 3 (.int .i64 ca),.iface 3 (.int .i64 cb),.iface 3 (.int .i64 cn),.iface 3 (.int .i64 yes),.iface 3 (.int .i64 no)] 20)).1
  refine HL.out.mono ?_
  rintro e w3 ⟨rfl,hb3⟩
  have hr:lineS (List.map ptS [.str nodeW,.num ck,.num ca,.num cb,.num cn,.num yes,.num no])=ns:=by rw [← HNS.out];rfl
  rw [hr]
  clear hr
  go_wp2_with fail
  go_ret
  exact ⟨rfl,below_lift hb2 hb3⟩
 |true =>
  go_upto_region 5 with fail
  have hbn:=Bld.new wB
  obtain ⟨n2,_⟩:=new_at wB (.cells #[.pointer none,.slice none 0 0] 57)
  generalize wB.alloc (.cells #[.pointer none,.slice none 0 0] 57)=w2 at *
  generalize hbb:wB.heap.size=bb at *
  clear a0 a1 a2 a3 a4 a5 a6 a7 a8 a9
  obtain ⟨a0,a1,a2,a3,a4,a5,a6,a7,a8,a9⟩:=cells10 (row_keep HO.out (by rw [hbb];exact n2))
  have HBW:=Lib.hid (by rw [← hbb] at n2;exact n2:Below wB.heap.size wB w2)
  obtain ⟨t0,ht0⟩:∃ x,lineS (List.map ptS [.str leafW,.num kind,.num (cuts.length:Int),.num (dual.length:Int)])=x:=⟨_,rfl⟩
  have HT0L:=Lib.hid (show t0.length≤1000 by
   rw [← ht0]
   refine Nat.le_trans (line_len (k:=21) fun x hx=>?_) (show 4*(21+1)+1≤1000 by decide)
   simp only [List.map_cons,List.map_nil,ptS,List.mem_cons,List.not_mem_nil,or_false] at hx
   rcases hx with rfl | rfl | rfl | rfl
   ·decide
   ·exact Pf.decI_len HN.out.kind
   ·exact Pf.decI_len (fits_nat (by omega))
   ·exact Pf.decI_len (fits_nat (by omega)))
  have HT0:=Lib.hid ht0
  clear ht0
  have HL:=Lib.hid (line_new (w:=w2.alloc (.cells #[.iface 9 (.string (B leafW)),.iface 3 (.int .i64 kind),.iface 3 (.int .i64 (cuts.length:Int)),.iface 3 (.int .i64 (dual.length:Int))] 20)) (g:=w2.heap.size) (ps:=[.str leafW,.num kind,.num (cuts.length:Int),.num (dual.length:Int)]) (new_at w2 _).2 (by simp) (by
   intro p hp
   simp only [List.mem_cons,List.not_mem_nil,or_false] at hp
   rcases hp with rfl | rfl | rfl | rfl
   ·trivial
   ·exact HN.out.kind
   ·exact fits_nat (by omega)
   ·exact fits_nat (by omega)) (by
   refine Nat.le_trans (join_len (k:=21) fun x hx=>?_) (show 4*(21+1)≤1000000 by decide)
   simp only [List.map_cons,List.map_nil,ptS,List.mem_cons,List.not_mem_nil,or_false] at hx
   rcases hx with rfl | rfl | rfl | rfl
   ·decide
   ·exact Pf.decI_len HN.out.kind
   ·exact Pf.decI_len (fits_nat (by omega))
   ·exact Pf.decI_len (fits_nat (by omega))) ((HT.out.below HBW.out).below (new_at w2 _).1))
  have HB3:=Lib.hid (below_lift HBW.out (new_at w2 (.cells #[.iface 9 (.string (B leafW)),.iface 3 (.int .i64 kind),.iface 3 (.int .i64 (cuts.length:Int)),.iface 3 (.int .i64 (dual.length:Int))] 20)).1)
  have HD3:=Lib.hid (hbn.below (new_at w2 (.cells #[.iface 9 (.string (B leafW)),.iface 3 (.int .i64 kind),.iface 3 (.int .i64 (cuts.length:Int)),.iface 3 (.int .i64 (dual.length:Int))] 20)).1)
  clear n2 hbn
  go_wp2_with fail
  refine HL.out.mono ?_
  rintro e w3 ⟨rfl,hb3⟩
  have hT0:lineS (List.map ptS [.str leafW,.num kind,.num (cuts.length:Int),.num (dual.length:Int)])=t0:=HT0.out
  rw [hT0]
  clear hT0 HL
  have hb4:=below_lift HB3.out hb3
  have HW:=Lib.hid (write_any bb [] t0 w3 (HD3.out.below hb3) (by rw [List.length_nil];have:=HT0L.out;omega))
  clear HB3 HD3
  go_wp2_with fail
  refine HW.out.mono ?_
  rintro e w4 ⟨rfl,hd4,hb5⟩
  have hb6:Below wB.heap.size wB w4:=hb4.trans (by rw [hbb];exact hb5)
  clear a0 a1 a2 a3 a4 a5 a6 a7 a8 a9
  obtain ⟨a0,a1,a2,a3,a4,a5,a6,a7,a8,a9⟩:=cells10 (row_keep HO.out hb6)
  rw [List.nil_append] at hd4
  clear HW hb3 hb4 hb5
  have HBB:=Lib.hid hbb
  clear hbb
  go_wp2_with fail
  go_loopw [6,53] (fun o i wr=>∃ k:Nat,k≤cuts.length∧i=.int .i64 k∧Bld wr bb (t0 ++ (cuts.take k).flatMap cutS)∧Below wB.heap.size wB wr) (fun _ i _=>cuts.length - (intOf i).toNat)
  case atStart=>exact ⟨0,by omega,rfl,by simpa using hd4,hb6⟩
  case round =>
   obtain ⟨k,hk,rfl,hd,hbel⟩:=hrel
   by_cases hlt:k<cuts.length
   ·have hkl:(k:Int)<(cuts.length:Int):=by omega
    obtain ⟨b,o,hA,hb,hx⟩:=elems cutC_len (by decide) HN.out.cuts (show 0<cuts.length by omega)
    change A=_ at hA
    subst hA
    have x0:wr.cell? ⟨b,o+k*3,none⟩=some (.int .i64 cuts[k].1):=(hbel.cell (p:=⟨b,o+k*3,none⟩) hb).trans (hx k hlt 0 _ rfl)
    have x1:wr.cell? ⟨b,o+k*3+1,none⟩=some (.int .i64 cuts[k].2.1):=(hbel.cell (p:=⟨b,o+k*3+1,none⟩) hb).trans (hx k hlt 1 _ rfl)
    have x2:wr.cell? ⟨b,o+k*3+2,none⟩=some (.int .i64 cuts[k].2.2):=(hbel.cell (p:=⟨b,o+k*3+2,none⟩) hb).trans (hx k hlt 2 _ rfl)
    have HTK:=Lib.hid (flat_take cutS hlt)
    have HFK:=Lib.hid (HN.out.cutsF _ (List.getElem_mem hlt))
    have HTL:=Lib.hid (flat_le cutS (b:=100) (cuts.take k) fun c hc=>cutS_len (HN.out.cutsF c (List.mem_of_mem_take hc)))
    rw [List.length_take_of_le hk] at HTL
    clear hx a0 a1 a2 a3 a4 a5 a6 a7 a8 a9
    generalize cuts[k]=c at *
    obtain ⟨u0,u1,u2⟩:=c
    dsimp only at x0 x1 x2
    go_upto_region 9 with fail
    obtain ⟨n3,p3⟩:=new_at wr (.cells #[.int .i64 u0,.int .i64 u1,.int .i64 u2] 107)
    generalize wr.alloc (.cells #[.int .i64 u0,.int .i64 u1,.int .i64 u2] 107)=wc at *
    have hbc:=below_lift hbel n3
    have hdc:=hd.below n3
    have d0:wc.cell? ⟨wr.heap.size,0,none⟩=some (.int .i64 u0):=(obj_cell p3 0).trans rfl
    have d1:wc.cell? ⟨wr.heap.size,1,none⟩=some (.int .i64 u1):=(obj_cell p3 1).trans rfl
    have d2:wc.cell? ⟨wr.heap.size,2,none⟩=some (.int .i64 u2):=(obj_cell p3 2).trans rfl
    clear x0 x1 x2 hd n3 p3
    have HL:=Lib.hid (line_new (w:=wc.alloc (.cells #[.iface 9 (.string (B cutW)),.iface 3 (.int .i64 u0),.iface 3 (.int .i64 u1),.iface 3 (.int .i64 u2)] 20)) (g:=wc.heap.size) (ps:=[.str cutW,.num u0,.num u1,.num u2]) (new_at wc _).2 (by simp) (by
     intro p hp
     simp only [List.mem_cons,List.not_mem_nil,or_false] at hp
     rcases hp with rfl | rfl | rfl | rfl
     ·trivial
     ·exact HFK.out.1
     ·exact HFK.out.2.1
     ·exact HFK.out.2.2) (by
     refine Nat.le_trans (join_len (k:=21) fun x hx=>?_) (show 4*(21+1)≤1000000 by decide)
     simp only [List.map_cons,List.map_nil,ptS,List.mem_cons,List.not_mem_nil,or_false] at hx
     rcases hx with rfl | rfl | rfl | rfl
     ·decide
     ·exact Pf.decI_len HFK.out.1
     ·exact Pf.decI_len HFK.out.2.1
     ·exact Pf.decI_len HFK.out.2.2) ((HT.out.below hbc).below (new_at wc _).1))
    have HBn:=Lib.hid (below_lift hbc (new_at wc (.cells #[.iface 9 (.string (B cutW)),.iface 3 (.int .i64 u0),.iface 3 (.int .i64 u1),.iface 3 (.int .i64 u2)] 20)).1)
    have HDn:=Lib.hid (hdc.below (new_at wc (.cells #[.iface 9 (.string (B cutW)),.iface 3 (.int .i64 u0),.iface 3 (.int .i64 u1),.iface 3 (.int .i64 u2)] 20)).1)
    clear hdc
    go_wp2_with fail
    refine HL.out.mono ?_
    rintro e w5 ⟨rfl,hb5⟩
    have hr:lineS (List.map ptS [.str cutW,.num u0,.num u1,.num u2])=cutS (u0,u1,u2):=rfl
    rw [hr]
    clear hr HL
    have HCL:=Lib.hid (cutS_len (c:=(u0,u1,u2)) HFK.out)
    have HW:=Lib.hid (write_any bb (t0 ++ (cuts.take k).flatMap cutS) (cutS (u0,u1,u2)) w5 (HDn.out.below hb5) (by
     rw [List.length_append]
     have e1:=HT0L.out
     have e2:=HTL.out
     have e3:=HCL.out
     omega))
    generalize cutS (u0,u1,u2)=cs at *
    have hb6:=below_lift HBn.out hb5
    clear HBn HDn HCL hb5
    go_wp2_with fail
    refine HW.out.mono ?_
    rintro e w6 ⟨rfl,hd6,hb7⟩
    have hb8:Below wB.heap.size wB w6:=hb6.trans (by rw [HBB.out];exact hb7)
    rw [List.append_assoc,HTK.out] at hd6
    clear HW HTK hb7 hb6
    go_wp2_with fail
    all_goals first
     |(go_roundw
       case rel=>exact ⟨k+1,by omega,by go_num,hd6,hb8⟩
       case measure=>simp [intOf];omega)
     |exact ⟨⟨k+1,by omega,by go_num,hd6,hb8⟩,by simp [intOf];omega⟩
   ·have hkl:¬ (k:Int)<(cuts.length:Int):=by omega
    have hkn:k=cuts.length:=by omega
    subst hkn
    rw [List.take_of_length_le (Nat.le_refl _)] at hd
    clear a0 a1 a2 a3 a4 a5 a6 a7 a8 a9
    obtain ⟨a0,a1,a2,a3,a4,a5,a6,a7,a8,a9⟩:=cells10 (row_keep HO.out hbel)
    go_wp2_with fail
    generalize ht1:t0 ++ cuts.flatMap cutS=t1 at *
    have HT1L:=Lib.hid (show t1.length≤20000000 by
     rw [← ht1,List.length_append]
     have e1:=HT0L.out
     have e2:=flat_le cutS (b:=100) cuts fun c hc=>cutS_len (HN.out.cutsF c hc)
     omega)
    have HT1:=Lib.hid ht1
    clear ht1
    go_loopw [8,74] (fun o i wr=>∃ k:Nat,k≤dual.length∧i=.int .i64 k∧Bld wr bb (t1 ++ (dual.take k).flatMap dualS)∧Below wB.heap.size wB wr) (fun _ i _=>dual.length - (intOf i).toNat)
    case atStart=>exact ⟨0,by omega,rfl,by simpa using hd,hbel⟩
    case round =>
     clear hd hbel
     obtain ⟨k,hk,rfl,hd,hbel⟩:=hrel
     by_cases hlt:k<dual.length
     ·have hkl:(k:Int)<(dual.length:Int):=by omega
      obtain ⟨b,o,hA,hb,hx⟩:=HN.out.dual (by rw [strs_length];exact Nat.lt_of_le_of_lt (Nat.zero_le _) hlt)
      change C=_ at hA
      subst hA
      have x0:wr.cell? ⟨b,o+k,none⟩=some (.string (B dual[k])):=(hbel.cell (p:=⟨b,o+k,none⟩) hb).trans (hx k _ (by show (dual.map fun p=>Value.string (B p))[k]? = _;rw [List.getElem?_map,List.getElem?_eq_getElem hlt];rfl))
      have HTK:=Lib.hid (flat_take dualS hlt)
      have HFK:=Lib.hid (h3 _ (List.getElem_mem hlt))
      have HTL:=Lib.hid (flat_le dualS (b:=100020) (dual.take k) fun d hd=>dualS_len (h3 d (List.mem_of_mem_take hd)))
      rw [List.length_take_of_le hk] at HTL
      clear hx a0 a1 a2 a3 a4 a5 a6 a7 a8 a9
      generalize dual[k]=d at *
      go_upto_region 14 with fail
      have HL:=Lib.hid (line_new (w:=wr.alloc (.cells #[.iface 9 (.string (B dualW)),.iface 46 (.string (B d))] 20)) (g:=wr.heap.size) (ps:=[.str dualW,.rat d]) (new_at wr _).2 (by simp) (by
       intro p hp
       simp only [List.mem_cons,List.not_mem_nil,or_false] at hp
       rcases hp with rfl | rfl <;> trivial) (by
       refine Nat.le_trans (join_len (k:=100000) fun x hx=>?_) (show 2*(100000+1)≤1000000 by decide)
       simp only [List.map_cons,List.map_nil,ptS,List.mem_cons,List.not_mem_nil,or_false] at hx
       rcases hx with rfl | rfl
       ·decide
       ·exact HFK.out) ((HT.out.below hbel).below (new_at wr _).1))
      have HBn:=Lib.hid (below_lift hbel (new_at wr (.cells #[.iface 9 (.string (B dualW)),.iface 46 (.string (B d))] 20)).1)
      have HDn:=Lib.hid (hd.below (new_at wr (.cells #[.iface 9 (.string (B dualW)),.iface 46 (.string (B d))] 20)).1)
      clear hd
      go_wp2_with fail
      refine HL.out.mono ?_
      rintro e w5 ⟨rfl,hb5⟩
      have hr:lineS (List.map ptS [.str dualW,.rat d])=dualS d:=rfl
      rw [hr]
      clear hr HL
      have HCL:=Lib.hid (dualS_len HFK.out)
      have HW:=Lib.hid (write_any bb (t1 ++ (dual.take k).flatMap dualS) (dualS d) w5 (HDn.out.below hb5) (by
       rw [List.length_append]
       have e1:=HT1L.out
       have e2:=HTL.out
       have e3:=HCL.out
       omega))
      generalize dualS d=cs at *
      have hb6:=below_lift HBn.out hb5
      clear HBn HDn HCL hb5
      go_wp2_with fail
      refine HW.out.mono ?_
      rintro e w6 ⟨rfl,hd6,hb7⟩
      have hb8:Below wB.heap.size wB w6:=hb6.trans (by rw [HBB.out];exact hb7)
      rw [List.append_assoc,HTK.out] at hd6
      clear HW HTK hb7 hb6
      go_wp2_with fail
      all_goals first
       |(go_roundw
         case rel=>exact ⟨k+1,by omega,by go_num,hd6,hb8⟩
         case measure=>simp [intOf];omega)
       |exact ⟨⟨k+1,by omega,by go_num,hd6,hb8⟩,by simp [intOf];omega⟩
     ·have hkl:¬ (k:Int)<(dual.length:Int):=by omega
      have hkn:k=dual.length:=by omega
      subst hkn
      rw [List.take_of_length_le (Nat.le_refl _)] at hd
      have HS:=Lib.hid (bstring_any bb _ wr hd (by rw [← HBB.out];exact hbel.size))
      clear hd
      go_wp2_with fail
      refine HS.out.mono ?_
      rintro e w5 ⟨rfl,_,hb5⟩
      have hb8:Below wB.heap.size wB w5:=hbel.trans (by rw [HBB.out];exact hb5)
      have hr:t1 ++ dual.flatMap dualS=ns:=by rw [← HT1.out,← HT0.out,← HNS.out];rfl
      rw [hr]
      clear hr HS hb5
      go_wp2_with fail
      go_ret
      exact ⟨rfl,below_lift HB.out hb8⟩
end Go.Proofs.YtljekdpgjaahjaaGreatDoor

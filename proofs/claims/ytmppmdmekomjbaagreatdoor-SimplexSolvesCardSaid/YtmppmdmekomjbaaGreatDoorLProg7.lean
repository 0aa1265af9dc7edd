/- text.Decimal; linear: Check. (Printed by wip/lprog7.py.) -/
import Derived.Test.YtmppmdmekomjbaaGreatDoorG16
import Derived.Test.YtmppmdmekomjbaaGreatDoorG11
import Derived.Deep.DeepCutAuto
namespace Go.Proofs.YtmppmdmekomjbaaGreatDoor
open Go.RowKit Num
set_option linter.unusedVariables false
attribute [local go_sem] B_size B_get B_toList B_mk B_extract B_append
attribute [local go_sem high] run_max2
theorem ldecimal_any (z:Int) (w:World) (hz:fits z) (ht:Tab w) :
  Calls Tryz.prog 61 #[.int .i64 z] w fun e w'=>e=.returned (.string (B (decI z)))∧Below w.heap.size w w':=by
 go_enter Tryz.func61,Tryz.ntmps61
 simp only [B_mk]
 go_wp2_with fail
 refine (itoaI_any z w hz ht).mono ?_
 rintro e w1 ⟨rfl,hb1⟩
 go_wp2_with fail
 go_ret
 exact ⟨rfl,hb1⟩
theorem fault_info:(Tryz.prog.info? 52).map (fun i=>(i.zero,i.size,i.bytes))=some (some (.agg #[.int .i64 0,.string (B [])]),2,24):=by kernel_rfl
theorem el_fault:ElemR Tryz.prog 38 52 (.agg #[.int .i64 0,.string (B [])]) 2 24:=⟨Tryz.underlying38,info_parts fault_info,rfl,by decide⟩
def FaultsAt (w:World) (Bs:Nat) (v:Value) (l:List (Int × Str)):Prop:=∃ F c,v=.slice F l.length c∧OwnR w Bs 52 2 F l.length c (fcells l)
theorem FaultsAt.below {w w':World} {Bs:Nat} {v:Value} {l:List (Int × Str)} (h:FaultsAt w Bs v l) (hb:Below w.heap.size w w'):FaultsAt w' Bs v l:=by
 obtain ⟨F,c,e,h⟩:=h;exact ⟨F,c,e,h.below hb⟩
theorem FaultsAt.mono {w:World} {Bs Bs':Nat} {v:Value} {l:List (Int × Str)} (h:FaultsAt w Bs v l) (hb:Bs'≤Bs):FaultsAt w Bs' v l:=by
 obtain ⟨F,c,e,h⟩:=h;exact ⟨F,c,e,h.mono hb⟩
theorem fcells_snoc (l:List (Int × Str)) (e:Int) (s:Str):fcells l ++ [.int .i64 e,.string (B s)]=fcells (l ++ [(e,s)]):=by rw [fcells_app];rfl
theorem snoc_len (l:List (Int × Str)) (f:Int × Str):l.length+1=(l ++ [f]).length:=by simp
def head1 (n:Nat):List (Int × Str):=if 8192<n then [(4,[])] else []
def head2 (m:Nat):List (Int × Str):=if 64<m then [(4,[])] else []
theorem head_eq (cost:List Int) (rs:List RowV):checkK (linOf cost rs) 0=head1 cost.length ++ head2 rs.length:=by
 show headF (linOf cost rs)=_
 unfold headF head1 head2
 rw [lin_rows];rfl
theorem checkK_len (q:LinL) (k:Nat):(checkK q k).length≤2+2*k:=by
 induction k with
 | zero =>
  show (headF q).length≤2
  unfold headF
  rw [List.length_append]
  split <;> split <;> simp
 | succ k ih =>
  unfold checkK
  rw [List.length_append]
  have:(rowF q.cost.length k (Num.rowAt q k)).length≤2:=by
   unfold rowF
   rw [List.length_append]
   split <;> split <;> simp
  omega
theorem check_step (cost:List Int) (rs:List RowV) (k:Nat) (h:k<rs.length):checkK (linOf cost rs) (k+1)=checkK (linOf cost rs) k ++ rowF cost.length k rs[k].L:=by
 show checkK (linOf cost rs) k ++ rowF (linOf cost rs).cost.length k (Num.rowAt (linOf cost rs) k)=_
 rw [lin_rowAt _ _ _ h];rfl
theorem OwnR.lt {w:World} {Bs:Nat} {e:TypeId} {sz n c:Nat} {A:Option Addr} {xs:List Value} (h:OwnR w Bs e sz A n c xs) (g off:Nat) (sp:Option Nat) (hg:A=some ⟨g,off,sp⟩):g<w.heap.size:=by
 rcases h.2 with ⟨hv,_⟩ | ⟨g',cap,cur,hv,_,hh,_⟩
 ·injection hv with hA _ _;rw [hg] at hA;cases hA
 ·injection hv with hA _ _
  rw [hg] at hA
  injection hA with hA
  injection hA with hA _ _
  subst hA
  rcases Nat.lt_or_ge g w.heap.size with h' | h'
  ·exact h'
  ·rw [Array.getElem?_eq_none h'] at hh;cases hh
section
variable {P:Program} {ops:Array Oper} {rest:List Oper} {o:Oper} {a:Act} {Q:Exit→Act→World→Prop}
theorem wp_app1rk {t e:TypeId} {z:Value} {sz bytes:Nat} (he:ElemR P t e z sz bytes) (hgd:o.guard=none) (s x:Operand) (ho:o.op=.call { callee:=.builtin .append,args:=#[s,x],argTypes:=#[t,t] })
  (Bs:Nat) (A:Option Addr) (n c:Nat) (xs:List Value) (w:World) (us:Array Value) (hs:a.eval s=.slice A n c) (hown:OwnR w Bs e sz A n c xs)
  (hx:a.eval x=.slice (some ⟨w.heap.size,0,none⟩) 1 1) (hus:us.size=sz) (h1:∀ u ∈ us.toList,u.oneCell'=true) (h63:n+1≤maxLen) (hby:(n+1)*bytes≤140737488355328) (hbase:Bs≤w.heap.size)
  (h:∀ A' c' w',OwnR w' Bs e sz A' (n+1) c' (xs ++ us.toList)→Below Bs w w'→(∀ k,k<w.heap.size→(∀ off sp,A≠some ⟨k,off,sp⟩)→w'.heap[k]? = w.heap[k]?)→wpList P ops Q rest (a.put o.dst (.slice A' (n+1) c')) w') :
  wpList P ops Q (o :: rest) a (w.alloc (.cells us e)):=by
 obtain ⟨ht,⟨i,hi,hz,hsz,hb⟩,hzs,hpos⟩:=he
 have hown':(w.alloc (.cells us e)).ownsRow Bs e sz (.slice A n c) n xs:=hown.alloc _
 refine wpList_append_own _ hgd s x t ho Bs e i z sz bytes ht hi hz hsz hb hzs hpos _ n xs hs hown' ⟨w.heap.size,0,none⟩ 1 1 us.toList hx (by rw [Array.length_toList,hus];omega) ?_ h1 h63 hby (by simp;omega) ?_
 ·intro j v hj
  rw [Array.getElem?_toList] at hj
  have hjl:j<us.size:=(Array.getElem?_eq_some_iff.1 hj).1
  unfold Addr.add
  by_cases h0:j=0
  ·subst h0;rw [if_pos rfl,World.cell?_alloc_new];exact hj
  ·rw [if_neg h0];show (w.alloc _).cell? ⟨w.heap.size,0+j,none⟩=_;rw [Nat.zero_add,World.cell?_alloc_new];exact hj
 ·intro v' w' h2 h3 h4
  have hne:v'≠.slice none 0 0:=by intro e;have:=(h4.1 e).2;omega
  obtain ⟨g,cap,hv⟩:∃ g cap,v'=.slice (some ⟨g,0,none⟩) (n+1) cap:=by
   rcases h2.2 with ⟨hv,_⟩ | ⟨g,cap,cur,hv,_⟩
   ·exact absurd hv hne
   ·exact ⟨g,cap,hv⟩
  subst hv
  refine h _ _ _ h2 ?_ ?_
  ·refine ((Below.refl _ _).alloc hbase _).grown h3 (by simp;omega) ?_
   intro k hk
   rcases hown.2 with ⟨hv,_⟩ | ⟨g',cap',cur',hv,hg',_⟩
   ·rw [hv] at hk;simp [Value.ownBlock] at hk
   ·rw [hv] at hk;simp [Value.ownBlock] at hk;omega
  ·intro k hk hA
   have hne2:some k≠(Value.slice A n c).ownBlock:=by
    rcases hown.2 with ⟨hv,_⟩ | ⟨g',cap',cur',hv,hg',_⟩
    ·rw [hv];simp [Value.ownBlock]
    ·injection hv with hv1 _ _
     rw [hv1]
     intro e
     have:k=g':=by simpa [Value.ownBlock] using e
     exact hA 0 none (by rw [hv1,this])
   rw [h3.block k (by simp;omega) hne2]
   show (w.heap.push _)[k]? = _
   rw [Array.getElem?_push_lt hk,Array.getElem?_eq_getElem hk]
end
set_option maxHeartbeats 4000000 in
set_option maxRecDepth 100000 in
theorem lcheck_any (cost:List Int) (rs:List RowV) (A:Option Addr) (ca:Nat) (R:Option Addr) (cr:Nat) (w:World) (hm:rs.length≤1000000) (hp:LinAt w cost rs A ca R cr) (ht:Tab w) :
  Calls Tryz.prog 22 #[linV A cost.length ca R rs.length cr] w fun e w'=>(∃ v,e=.returned v∧FaultsAt w' w.heap.size v (checkK (linOf cost rs) rs.length))∧Below w.heap.size w w':=by
 have hla:=hp.la
 have hlr:=hp.lr
 unfold maxLen at hla hlr
 have b0:=new_below w (linO A cost.length ca R rs.length cr)
 have HP:=Lib.hid hp
 clear hp
 have HBW:=Lib.hid (fun wr (h:Below (w.alloc (linO A cost.length ca R rs.length cr)).heap.size (w.alloc (linO A cost.length ca R rs.length cr)) wr)=>b0.trans (h.mono b0.size))
 have HK0:=Lib.hid (head_eq cost rs)
 have HKS:=Lib.hid (check_step cost rs)
 have HKL:=Lib.hid (checkK_len (linOf cost rs))
 have hfin:∀ v wr,Below (w.alloc (linO A cost.length ca R rs.length cr)).heap.size (w.alloc (linO A cost.length ca R rs.length cr)) wr→FaultsAt wr (w.alloc (linO A cost.length ca R rs.length cr)).heap.size v (checkK (linOf cost rs) rs.length)→(∃ u,Ending.returned v=.returned u∧FaultsAt wr w.heap.size u (checkK (linOf cost rs) rs.length))∧Below w.heap.size w wr:=fun v wr h1 h2=>⟨⟨v,rfl,h2.mono b0.size⟩,HBW.out wr h1⟩
 have HFIN:=Lib.hid hfin
 clear hfin
 generalize checkK (linOf cost rs)=K at *
 go_enter Tryz.func22,Tryz.ntmps22
 go_upto_if 10 with fail
 go_cut [3] (fun v w2=>FaultsAt w2 (w.alloc (linO A cost.length ca R rs.length cr)).heap.size v (head1 cost.length)∧Below (w.alloc (linO A cost.length ca R rs.length cr)).heap.size (w.alloc (linO A cost.length ca R rs.length cr)) w2)
 case first =>
  by_cases h1:8192<cost.length
  ·have h1':(8192:Int)<(cost.length:Int):=by omega
   have HH:=Lib.hid (show head1 cost.length=[(4,[])] from if_pos h1)
   go_wp2_with (at_builtin;refine wp_app1r el_fault rfl _ _ rfl (w.alloc (linO A cost.length ca R rs.length cr)).heap.size _ _ _ _ _ #[.int .i64 4,.string (B [])] rfl (OwnR.nil _ _ _ _) (by rw [World.size_alloc];rfl) rfl (by simp [Value.oneCell']) (by unfold maxLen;omega) (by omega) (Nat.le_refl _) ?_;intro A3 c3 w3 hown3 hb3)
   go_meet
   rw [HH.out]
   exact ⟨⟨A3,c3,rfl,hown3⟩,hb3⟩
  ·have h1':¬ (8192:Int)<(cost.length:Int):=by omega
   have HH:=Lib.hid (show head1 cost.length=[] from if_neg h1)
   go_wp2_with fail
   go_meet
   rw [HH.out]
   exact ⟨⟨none,0,rfl,OwnR.nil _ _ _ _⟩,Below.refl _ _⟩
 case rest =>
  obtain ⟨⟨F1,c1,rfl,hown1⟩,hbc⟩:=hcut
  have hlin:=lin_cells hbc
  have hl1:(head1 cost.length).length≤1:=by unfold head1;split <;> simp
  generalize hh1:head1 cost.length=l1 at *
  clear hh1
  obtain ⟨d0,d1,d2⟩:=hlin
  go_upto_if 18 with fail
  go_cut [3] (fun v w2=>FaultsAt w2 (w.alloc (linO A cost.length ca R rs.length cr)).heap.size v (l1 ++ head2 rs.length)∧Below (w.alloc (linO A cost.length ca R rs.length cr)).heap.size (w.alloc (linO A cost.length ca R rs.length cr)) w2)
  case first =>
   by_cases h1:64<rs.length
   ·have h1':(64:Int)<(rs.length:Int):=by omega
    have HH:=Lib.hid (show l1 ++ head2 rs.length=l1 ++ [(4,[])] by rw [show head2 rs.length=[(4,[])] from if_pos h1])
    go_wp2_with (at_builtin;refine wp_app1r el_fault rfl _ _ rfl (w.alloc (linO A cost.length ca R rs.length cr)).heap.size _ _ _ _ _ #[.int .i64 4,.string (B [])] rfl hown1 rfl rfl (by simp [Value.oneCell']) (by unfold maxLen;omega) (by omega) hbc.size ?_;intro A3 c3 w3 hown3 hb3;rw [show (#[Value.int .i64 4,Value.string (B [])]:Array Value).toList=[.int .i64 4,.string (B [])] from rfl,fcells_snoc] at hown3;rw [snoc_len l1 (4,[])] at hown3 ⊢)
    go_meet
    rw [HH.out]
    exact ⟨⟨A3,c3,by rw [← snoc_len],hown3⟩,hbc.trans hb3⟩
   ·have h1':¬ (64:Int)<(rs.length:Int):=by omega
    have HH:=Lib.hid (show l1 ++ head2 rs.length=l1 by rw [show head2 rs.length=[] from if_neg h1,List.append_nil])
    go_wp2_with fail
    go_meet
    rw [HH.out]
    exact ⟨⟨F1,c1,rfl,hown1⟩,hbc⟩
  case rest =>
   clear hown1 d0 d1 d2 hbc
   obtain ⟨hfa,hbc⟩:=hcut
   rw [← HK0.out] at hfa
   obtain ⟨d0,d1,d2⟩:=lin_cells hbc
   go_wp2_with fail
   clear d0 d1 d2
   go_loopw [3,4,5,6,26] (fun v _ _ _ i wr=>∃ k:Nat,k≤rs.length∧i=.int .i64 k∧FaultsAt wr (w.alloc (linO A cost.length ca R rs.length cr)).heap.size v (K k)∧Below (w.alloc (linO A cost.length ca R rs.length cr)).heap.size (w.alloc (linO A cost.length ca R rs.length cr)) wr) (fun _ _ _ _ i _=>rs.length - (intOf i).toNat)
   case atStart=>exact ⟨0,Nat.zero_le _,rfl,hfa,hbc⟩
   case round =>
    clear hfa hbc
    obtain ⟨k,hk,rfl,⟨F,cf,rfl,hown⟩,hbel0⟩:=hrel
    have hbel:=HBW.out wr hbel0
    by_cases hlt:k<rs.length
    ·obtain ⟨bR,oR,rfl,hbR,hcR⟩:=HP.out.rows.at (by omega)
     have hc0:=(hbel.cell (p:=⟨bR,oR+k*3,none⟩) hbR).trans (hcR k hlt).1
     have hc1:=(hbel.cell (p:=⟨bR,oR+k*3+1,none⟩) hbR).trans (hcR k hlt).2.1
     have hc2:=(hbel.cell (p:=⟨bR,oR+k*3+2,none⟩) hbR).trans (hcR k hlt).2.2
     clear hcR
     have hks:=HKS.out k hlt
     have hkl:=HKL.out k
     have hok:=HP.out.ok rs[k] (List.getElem_mem hlt)
     have hrl1:=hok.1
     have hrl2:=hok.2.1
     unfold maxLen at hrl2
     generalize rs[k]=r at *
     clear hok
     have hfk:fits (k:Int):=by constructor <;> omega
     have n1:=new_below wr (.cells #[.slice r.A r.L.coef.length r.c,.int .i64 r.L.kind,.int .i64 r.L.right] 45)
     have row1:=row_new (w:=wr) (o:=.cells #[.slice r.A r.L.coef.length r.c,.int .i64 r.L.kind,.int .i64 r.L.right] 45)
     have hbA:=hbel.trans (n1.mono hbel.size)
     have hbA0:=hbel0.trans (n1.mono hbel0.size)
     have hown1:=hown.below n1
     have HD:=Lib.hid (fun (w:World) (ht:Tab w)=>ldecimal_any (k:Int) w hfk ht)
     have HNX:=Lib.hid (show ∀ l,l=K k ++ rowF cost.length k r.L→K (k+1)=l from fun l h=>hks.trans h.symm)
     generalize K k=l at *
     generalize hrk:rowF cost.length k r.L=rf at *
     unfold rowF at hrk
     generalize decI (k:Int)=dk at *
     by_cases q1:r.L.coef.length=cost.length
     ·have q1':((r.L.coef.length:Int) != (cost.length:Int))=false:=by rw [q1];simp
      rw [if_pos q1] at hrk
      clear q1
      have hne:∀ off sp,F≠some ⟨wr.heap.size,off,sp⟩:=fun off sp h=>absurd (hown.lt _ _ _ h) (by omega)
      by_cases k1:r.L.kind<1
      ·rw [if_pos (.inl k1)] at hrk
       have HRF:=Lib.hid (HNX.out (l ++ [(8,dk)]) (by rw [← hrk];simp))
       clear hrk
       go_wp2_with fail
       refine (HD.out _ (ht.below hbA)).mono ?_
       rintro e w2 ⟨rfl,hb2⟩
       have a2:=hbA0.trans (hb2.mono hbA0.size)
       have hown2:=hown1.below hb2
       obtain ⟨d0,d1,d2⟩:=lin_cells a2
       have hr2:=row_on row1 hb2
       have hgw:wr.heap.size<w2.heap.size:=Nat.lt_of_lt_of_le (new_lt wr _) hb2.size
       have e0:w2.cell? ⟨wr.heap.size,0,none⟩=some (.slice r.A r.L.coef.length r.c):=by rw [cell_of_row w2 wr.heap.size 0 _ _ _ hr2];rfl
       have e1:w2.cell? ⟨wr.heap.size,1,none⟩=some (.int .i64 r.L.kind):=by rw [cell_of_row w2 wr.heap.size 1 _ _ _ hr2];rfl
       clear hr2
       go_wp2_with (at_builtin;refine wp_app1rk el_fault rfl _ _ rfl (w.alloc (linO A cost.length ca (some ⟨bR,oR,none⟩) rs.length cr)).heap.size _ _ _ _ _ #[.int .i64 8,.string (B dk)] rfl hown2 rfl rfl (by simp [Value.oneCell']) (by unfold maxLen;omega) (by omega) a2.size ?_;intro A3 c3 w3 hown3 hb3 hk3;rw [show (#[Value.int .i64 8,Value.string (B dk)]:Array Value).toList=[.int .i64 8,.string (B dk)] from rfl,fcells_snoc] at hown3;have b3:=a2.trans hb3)
       go_roundw
       case rel=>exact ⟨k+1,by omega,by go_num,by rw [HRF.out];exact ⟨A3,c3,by rw [← snoc_len],by rw [← snoc_len];exact hown3⟩,b3⟩
       case measure=>simp [intOf];omega
      ·by_cases k3:3<r.L.kind
       ·rw [if_pos (.inr k3)] at hrk
        have HRF:=Lib.hid (HNX.out (l ++ [(8,dk)]) (by rw [← hrk];simp))
        clear hrk
        go_wp2_with fail
        refine (HD.out _ (ht.below hbA)).mono ?_
        rintro e w2 ⟨rfl,hb2⟩
        have a2:=hbA0.trans (hb2.mono hbA0.size)
        have hown2:=hown1.below hb2
        obtain ⟨d0,d1,d2⟩:=lin_cells a2
        have hr2:=row_on row1 hb2
        have hgw:wr.heap.size<w2.heap.size:=Nat.lt_of_lt_of_le (new_lt wr _) hb2.size
        have e0:w2.cell? ⟨wr.heap.size,0,none⟩=some (.slice r.A r.L.coef.length r.c):=by rw [cell_of_row w2 wr.heap.size 0 _ _ _ hr2];rfl
        have e1:w2.cell? ⟨wr.heap.size,1,none⟩=some (.int .i64 r.L.kind):=by rw [cell_of_row w2 wr.heap.size 1 _ _ _ hr2];rfl
        clear hr2
        go_wp2_with (at_builtin;refine wp_app1rk el_fault rfl _ _ rfl (w.alloc (linO A cost.length ca (some ⟨bR,oR,none⟩) rs.length cr)).heap.size _ _ _ _ _ #[.int .i64 8,.string (B dk)] rfl hown2 rfl rfl (by simp [Value.oneCell']) (by unfold maxLen;omega) (by omega) a2.size ?_;intro A3 c3 w3 hown3 hb3 hk3;rw [show (#[Value.int .i64 8,Value.string (B dk)]:Array Value).toList=[.int .i64 8,.string (B dk)] from rfl,fcells_snoc] at hown3;have b3:=a2.trans hb3)
        go_roundw
        case rel=>exact ⟨k+1,by omega,by go_num,by rw [HRF.out];exact ⟨A3,c3,by rw [← snoc_len],by rw [← snoc_len];exact hown3⟩,b3⟩
        case measure=>simp [intOf];omega
       ·rw [if_neg (fun h=>h.elim k1 k3)] at hrk
        have HRF:=Lib.hid (HNX.out (l) (by rw [← hrk];simp))
        clear hrk
        go_wp2_with fail
        refine (HD.out _ (ht.below hbA)).mono ?_
        rintro e w2 ⟨rfl,hb2⟩
        have a2:=hbA0.trans (hb2.mono hbA0.size)
        have hown2:=hown1.below hb2
        obtain ⟨d0,d1,d2⟩:=lin_cells a2
        have hr2:=row_on row1 hb2
        have hgw:wr.heap.size<w2.heap.size:=Nat.lt_of_lt_of_le (new_lt wr _) hb2.size
        have e0:w2.cell? ⟨wr.heap.size,0,none⟩=some (.slice r.A r.L.coef.length r.c):=by rw [cell_of_row w2 wr.heap.size 0 _ _ _ hr2];rfl
        have e1:w2.cell? ⟨wr.heap.size,1,none⟩=some (.int .i64 r.L.kind):=by rw [cell_of_row w2 wr.heap.size 1 _ _ _ hr2];rfl
        clear hr2
        go_wp2_with fail
        go_roundw
        case rel=>exact ⟨k+1,by omega,by go_num,by rw [HRF.out];exact ⟨F,cf,rfl,hown2⟩,a2⟩
        case measure=>simp [intOf];omega
     ·have q1':((r.L.coef.length:Int) != (cost.length:Int))=true:=by rw [bne_iff_ne];omega
      rw [if_neg q1] at hrk
      clear q1
      have hne:∀ off sp,F≠some ⟨wr.heap.size,off,sp⟩:=fun off sp h=>absurd (hown.lt _ _ _ h) (by omega)
      by_cases k1:r.L.kind<1
      ·rw [if_pos (.inl k1)] at hrk
       have HRF:=Lib.hid (HNX.out (l ++ [(2,dk)] ++ [(8,dk)]) (by rw [← hrk];simp))
       clear hrk
       go_wp2_with fail
       refine (HD.out _ (ht.below hbA)).mono ?_
       rintro e w2 ⟨rfl,hb2⟩
       have a2:=hbA0.trans (hb2.mono hbA0.size)
       have hown2:=hown1.below hb2
       obtain ⟨d0,d1,d2⟩:=lin_cells a2
       have hr2:=row_on row1 hb2
       have hgw:wr.heap.size<w2.heap.size:=Nat.lt_of_lt_of_le (new_lt wr _) hb2.size
       have e0:w2.cell? ⟨wr.heap.size,0,none⟩=some (.slice r.A r.L.coef.length r.c):=by rw [cell_of_row w2 wr.heap.size 0 _ _ _ hr2];rfl
       have e1:w2.cell? ⟨wr.heap.size,1,none⟩=some (.int .i64 r.L.kind):=by rw [cell_of_row w2 wr.heap.size 1 _ _ _ hr2];rfl
       clear hr2
       go_wp2_with (first | (at_builtin;refine wp_app1rk el_fault rfl _ _ rfl (w.alloc (linO A cost.length ca (some ⟨bR,oR,none⟩) rs.length cr)).heap.size _ _ _ _ _ #[.int .i64 2,.string (B dk)] rfl hown2 rfl rfl (by simp [Value.oneCell']) (by unfold maxLen;omega) (by omega) a2.size ?_;intro A3 c3 w3 hown3 hb3 hk3;rw [show (#[Value.int .i64 2,Value.string (B dk)]:Array Value).toList=[.int .i64 2,.string (B dk)] from rfl,fcells_snoc] at hown3;have b3:=a2.trans hb3;have e1:=(World.cell?_of_block (hk3 _ hgw hne)).trans e1) | (at_builtin;refine wp_app1rk el_fault rfl _ _ rfl (w.alloc (linO A cost.length ca (some ⟨bR,oR,none⟩) rs.length cr)).heap.size _ _ _ _ _ #[.int .i64 8,.string (B dk)] rfl hown3 rfl rfl (by simp [Value.oneCell']) (by unfold maxLen;omega) (by omega) b3.size ?_;intro A4 c4 w4 hown4 hb4 hk4;rw [show (#[Value.int .i64 8,Value.string (B dk)]:Array Value).toList=[.int .i64 8,.string (B dk)] from rfl,fcells_snoc] at hown4;have b4:=b3.trans hb4))
       go_roundw
       case rel=>exact ⟨k+1,by omega,by go_num,by rw [HRF.out];exact ⟨A4,c4,by rw [← snoc_len,← snoc_len],by rw [← snoc_len,← snoc_len];exact hown4⟩,b4⟩
       case measure=>simp [intOf];omega
      ·by_cases k3:3<r.L.kind
       ·rw [if_pos (.inr k3)] at hrk
        have HRF:=Lib.hid (HNX.out (l ++ [(2,dk)] ++ [(8,dk)]) (by rw [← hrk];simp))
        clear hrk
        go_wp2_with fail
        refine (HD.out _ (ht.below hbA)).mono ?_
        rintro e w2 ⟨rfl,hb2⟩
        have a2:=hbA0.trans (hb2.mono hbA0.size)
        have hown2:=hown1.below hb2
        obtain ⟨d0,d1,d2⟩:=lin_cells a2
        have hr2:=row_on row1 hb2
        have hgw:wr.heap.size<w2.heap.size:=Nat.lt_of_lt_of_le (new_lt wr _) hb2.size
        have e0:w2.cell? ⟨wr.heap.size,0,none⟩=some (.slice r.A r.L.coef.length r.c):=by rw [cell_of_row w2 wr.heap.size 0 _ _ _ hr2];rfl
        have e1:w2.cell? ⟨wr.heap.size,1,none⟩=some (.int .i64 r.L.kind):=by rw [cell_of_row w2 wr.heap.size 1 _ _ _ hr2];rfl
        clear hr2
        go_wp2_with (first | (at_builtin;refine wp_app1rk el_fault rfl _ _ rfl (w.alloc (linO A cost.length ca (some ⟨bR,oR,none⟩) rs.length cr)).heap.size _ _ _ _ _ #[.int .i64 2,.string (B dk)] rfl hown2 rfl rfl (by simp [Value.oneCell']) (by unfold maxLen;omega) (by omega) a2.size ?_;intro A3 c3 w3 hown3 hb3 hk3;rw [show (#[Value.int .i64 2,Value.string (B dk)]:Array Value).toList=[.int .i64 2,.string (B dk)] from rfl,fcells_snoc] at hown3;have b3:=a2.trans hb3;have e1:=(World.cell?_of_block (hk3 _ hgw hne)).trans e1) | (at_builtin;refine wp_app1rk el_fault rfl _ _ rfl (w.alloc (linO A cost.length ca (some ⟨bR,oR,none⟩) rs.length cr)).heap.size _ _ _ _ _ #[.int .i64 8,.string (B dk)] rfl hown3 rfl rfl (by simp [Value.oneCell']) (by unfold maxLen;omega) (by omega) b3.size ?_;intro A4 c4 w4 hown4 hb4 hk4;rw [show (#[Value.int .i64 8,Value.string (B dk)]:Array Value).toList=[.int .i64 8,.string (B dk)] from rfl,fcells_snoc] at hown4;have b4:=b3.trans hb4))
        go_roundw
        case rel=>exact ⟨k+1,by omega,by go_num,by rw [HRF.out];exact ⟨A4,c4,by rw [← snoc_len,← snoc_len],by rw [← snoc_len,← snoc_len];exact hown4⟩,b4⟩
        case measure=>simp [intOf];omega
       ·rw [if_neg (fun h=>h.elim k1 k3)] at hrk
        have HRF:=Lib.hid (HNX.out (l ++ [(2,dk)]) (by rw [← hrk];simp))
        clear hrk
        go_wp2_with fail
        refine (HD.out _ (ht.below hbA)).mono ?_
        rintro e w2 ⟨rfl,hb2⟩
        have a2:=hbA0.trans (hb2.mono hbA0.size)
        have hown2:=hown1.below hb2
        obtain ⟨d0,d1,d2⟩:=lin_cells a2
        have hr2:=row_on row1 hb2
        have hgw:wr.heap.size<w2.heap.size:=Nat.lt_of_lt_of_le (new_lt wr _) hb2.size
        have e0:w2.cell? ⟨wr.heap.size,0,none⟩=some (.slice r.A r.L.coef.length r.c):=by rw [cell_of_row w2 wr.heap.size 0 _ _ _ hr2];rfl
        have e1:w2.cell? ⟨wr.heap.size,1,none⟩=some (.int .i64 r.L.kind):=by rw [cell_of_row w2 wr.heap.size 1 _ _ _ hr2];rfl
        clear hr2
        go_wp2_with (at_builtin;refine wp_app1rk el_fault rfl _ _ rfl (w.alloc (linO A cost.length ca (some ⟨bR,oR,none⟩) rs.length cr)).heap.size _ _ _ _ _ #[.int .i64 2,.string (B dk)] rfl hown2 rfl rfl (by simp [Value.oneCell']) (by unfold maxLen;omega) (by omega) a2.size ?_;intro A3 c3 w3 hown3 hb3 hk3;rw [show (#[Value.int .i64 2,Value.string (B dk)]:Array Value).toList=[.int .i64 2,.string (B dk)] from rfl,fcells_snoc] at hown3;have b3:=a2.trans hb3;have e1:=(World.cell?_of_block (hk3 _ hgw hne)).trans e1)
        go_roundw
        case rel=>exact ⟨k+1,by omega,by go_num,by rw [HRF.out];exact ⟨A3,c3,by rw [← snoc_len],by rw [← snoc_len];exact hown3⟩,b3⟩
        case measure=>simp [intOf];omega
    ·have hkx:k=rs.length:=by omega
     have HF:=Lib.hid (show FaultsAt wr (w.alloc (linO A cost.length ca R rs.length cr)).heap.size (.slice F (K k).length cf) (K rs.length) by rw [show K rs.length=K k by rw [hkx]];exact ⟨F,cf,rfl,hown⟩)
     clear hkx
     go_wp2_with fail
     go_ret
     exact HFIN.out _ _ hbel0 HF.out
end Go.Proofs.YtmppmdmekomjbaaGreatDoor

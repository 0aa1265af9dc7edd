/- the reference's Decimal (turned from TRDec). -/
import Derived.Test.YtmppmdmekomjbaaGreatDoorLProg7
import Derived.Test.YtmppmdmekomjbaaGreatDoorG3
namespace Go.Proofs.YtmppmdmekomjbaaGreatDoor
open Go.RowKit Num
set_option linter.unusedVariables false
attribute [local go_sem] B_size B_get B_toList B_mk B_extract B_append
theorem one_byte (w:World) (c:Int) (h0:0≤c) (h1:c≤255) :
  (convert 105 9 (.slice (some ⟨w.heap.size,0,none⟩) 1 1)).run Tryz.prog (w.alloc (.cells #[.int .u8 c] 5))=.ok (.string (B [UInt8.ofNat c.toNat])) (w.alloc (.cells #[.int .u8 c] 5)):=by
 have:=OwnS.lit w 5 #[.int .u8 c] w.heap.size 1 (Nat.le_refl _) rfl (by unfold maxLen;omega)
 have e:(#[Value.int .u8 c]).toList=bytes [UInt8.ofNat c.toNat]:=by
  simp only [bytes,List.map_cons,List.map_nil,UInt8.toNat_ofNat']
  congr 2;omega
 rw [e] at this
 exact conv_bytes _ _ _ _ _ _ rfl this
theorem dec_step (m:Nat):dec m=(if m / 10≠0 then dec (m / 10) else []) ++ [dch (m % 10)]:=by
 rw [dec]
 by_cases h:m<10
 ·rw [dif_pos h,if_neg (by omega),Nat.mod_eq_of_lt h];rfl
 ·rw [dif_neg h,if_pos (by omega)]
theorem tail_len {a b c:Str} (h:a=b ++ c) (ha:a.length≤20):c.length≤20:=by rw [h,List.length_append] at ha;omega
set_option maxRecDepth 100000 in
theorem rdecimal_any (z:Int) (w:World) (hz:fits z) :
  Calls Tryz.prog 53 #[.int .i64 z] w fun e w'=>e=.returned (.string (B (decI z)))∧Below w.heap.size w w':=by
 have HL:=Lib.hid (dec_len20 hz)
 have HZ:=Lib.hid (show decI z=if z<0 then 45 :: dec z.natAbs else dec z.natAbs from rfl)
 unfold fits at hz
 go_enter Tryz.func53,Tryz.ntmps53
 simp only [B_mk]
 go_wp2_with fail
 go_loopw [3,4,5,6] (fun s l a _ wr=>∃ (x:Int) (t:Str) (b:Bool),s=.string (B t)∧l=.int .i64 x∧a=.bool b ∧ -9223372036854775808≤x∧x≤9223372036854775807∧dec z.natAbs=(if b=true then dec x.natAbs else []) ++ t∧Below w.heap.size w wr)
  (fun _ l a _ _=>match a with | .bool true=>1+(intOf l).natAbs | _=>0)
 case atStart=>exact ⟨z,[],true,rfl,rfl,rfl,hz.1,hz.2,by simp,Below.refl _ _⟩
 case round =>
  obtain ⟨x,t,b,rfl,rfl,rfl,hx1,hx2,hd,hbel⟩:=hrel
  have htl:=tail_len hd HL.out
  have HD:=Lib.hid hd
  clear hd
  cases b with
  | true =>
   have c1:=one_byte wr (48+Int.tmod x 10)
   have c2:=one_byte wr (48 + -Int.tmod x 10)
   have TM:=Lib.hid (tmod_abs x)
   have TD:=Lib.hid (tdiv_abs x)
   have DS:=Lib.hid (dec_step x.natAbs)
   have hm1:-9≤Int.tmod x 10:=by have:=TM.out;omega
   have hm2:Int.tmod x 10≤9:=by have:=TM.out;omega
   have hq:Int.tdiv x 10≤9223372036854775807 ∧ -9223372036854775808≤Int.tdiv x 10:=by have:=TD.out;omega
   obtain ⟨hq1,hq2⟩:=hq
   by_cases hneg:Int.tmod x 10<0
   ·have c3:=c2 (by omega) (by omega)
    have HC:=Lib.hid (show UInt8.ofNat (48 + -Int.tmod x 10).toNat=dch (x.natAbs % 10) by
     unfold dch;congr 1;have:=TM.out;omega)
    clear c1 c2
    by_cases hq0:Int.tdiv x 10=0
    ·have hqt:(Int.tdiv x 10 != 0)=false:=by simp [hq0]
     have HQ:=Lib.hid hq0
     clear hq0
     go_wp2_with fail
     go_roundw
     case rel =>
      refine ⟨Int.tdiv x 10,_,false,rfl,rfl,rfl,hq2,hq1,?_,hbel.alloc hbel.size _⟩
      rw [HD.out,if_pos rfl,DS.out,HC.out]
      have:=TD.out
      have:=HQ.out
      rw [if_neg (by omega)];rfl
     case measure =>
      show 0<_
      simp [intOf];omega
    ·have hqt:(Int.tdiv x 10 != 0)=true:=by simp [hq0]
     have HQ:=Lib.hid hq0
     clear hq0
     go_wp2_with fail
     go_roundw
     case rel =>
      refine ⟨Int.tdiv x 10,_,true,rfl,rfl,rfl,hq2,hq1,?_,hbel.alloc hbel.size _⟩
      rw [HD.out,if_pos rfl,DS.out,HC.out]
      have:=TD.out
      have:=HQ.out
      rw [if_pos (by omega),if_pos rfl,← TD.out]
      simp
     case measure =>
      have:=TD.out
      have:=HQ.out
      have e:x.natAbs.div 10=x.natAbs / 10:=rfl
      simp [intOf];omega
   ·have c3:=c1 (by omega) (by omega)
    have HC:=Lib.hid (show UInt8.ofNat (48+Int.tmod x 10).toNat=dch (x.natAbs % 10) by
     unfold dch;congr 1;have:=TM.out;omega)
    clear c1 c2
    by_cases hq0:Int.tdiv x 10=0
    ·have hqt:(Int.tdiv x 10 != 0)=false:=by simp [hq0]
     have HQ:=Lib.hid hq0
     clear hq0
     go_wp2_with fail
     go_roundw
     case rel =>
      refine ⟨Int.tdiv x 10,_,false,rfl,rfl,rfl,hq2,hq1,?_,hbel.alloc hbel.size _⟩
      rw [HD.out,if_pos rfl,DS.out,HC.out]
      have:=TD.out
      have:=HQ.out
      rw [if_neg (by omega)];rfl
     case measure =>
      show 0<_
      simp [intOf];omega
    ·have hqt:(Int.tdiv x 10 != 0)=true:=by simp [hq0]
     have HQ:=Lib.hid hq0
     clear hq0
     go_wp2_with fail
     go_roundw
     case rel =>
      refine ⟨Int.tdiv x 10,_,true,rfl,rfl,rfl,hq2,hq1,?_,hbel.alloc hbel.size _⟩
      rw [HD.out,if_pos rfl,DS.out,HC.out]
      have:=TD.out
      have:=HQ.out
      rw [if_pos (by omega),if_pos rfl,← TD.out]
      simp
     case measure =>
      have:=TD.out
      have:=HQ.out
      have e:x.natAbs.div 10=x.natAbs / 10:=rfl
      simp [intOf];omega
  | false =>
   have HT:=Lib.hid (show t=dec z.natAbs by rw [HD.out];rfl)
   by_cases h:z<0
   ·have HF:=Lib.hid (show 45 :: t=decI z by rw [HZ.out,if_pos h,HT.out])
    go_wp2_with fail
    go_ret
    exact ⟨ret_str HF.out,hbel⟩
   ·have HF:=Lib.hid (show t=decI z by rw [HZ.out,if_neg h,HT.out])
    go_wp2_with fail
    go_ret
    exact ⟨ret_str HF.out,hbel⟩
attribute [local go_sem high] run_max2
set_option maxHeartbeats 4000000 in
set_option maxRecDepth 100000 in
theorem rlcheck_any (cost:List Int) (rs:List RowV) (A:Option Addr) (ca:Nat) (R:Option Addr) (cr:Nat) (w:World) (hm:rs.length≤1000000) (hp:LinAt w cost rs A ca R cr) :
  Calls Tryz.prog 15 #[linV A cost.length ca R rs.length cr] w fun e w'=>(∃ v,e=.returned v∧FaultsAt w' w.heap.size v (checkK (linOf cost rs) rs.length))∧Below w.heap.size w w':=by
 have hla:=hp.la
 have hlr:=hp.lr
 unfold maxLen at hla hlr
 have b0:=new_below w (linO A cost.length ca R rs.length cr)
 have HP:=Lib.hid hp
 clear hp
 have HBW:=Lib.hid (fun wr (h:Below (w.alloc (linO A cost.length ca R rs.length cr)).heap.size (w.alloc (linO A cost.length ca R rs.length cr)) wr)=>b0.trans (h.mono b0.size))
 have HK0:=Lib.hid (head_eq cost rs)
 have HKS:=Lib.hid (check_step cost rs)
 have HKL:=Lib.hid (checkK_len (linOf cost rs))
 have hfin:∀ v wr,Below (w.alloc (linO A cost.length ca R rs.length cr)).heap.size (w.alloc (linO A cost.length ca R rs.length cr)) wr→FaultsAt wr (w.alloc (linO A cost.length ca R rs.length cr)).heap.size v (checkK (linOf cost rs) rs.length)→(∃ u,Ending.returned v=.returned u∧FaultsAt wr w.heap.size u (checkK (linOf cost rs) rs.length))∧Below w.heap.size w wr:=fun v wr h1 h2=>⟨⟨v,rfl,h2.mono b0.size⟩,HBW.out wr h1⟩
 have HFIN:=Lib.hid hfin
 clear hfin
 generalize checkK (linOf cost rs)=K at *
 go_enter Tryz.func15,Tryz.ntmps15
 go_upto_if 8 with fail
 go_cut [3] (fun v w2=>FaultsAt w2 (w.alloc (linO A cost.length ca R rs.length cr)).heap.size v (head1 cost.length)∧Below (w.alloc (linO A cost.length ca R rs.length cr)).heap.size (w.alloc (linO A cost.length ca R rs.length cr)) w2)
 case first =>
  by_cases h1:8192<cost.length
  ·have h1':(8192:Int)<(cost.length:Int):=by omega
   have HH:=Lib.hid (show head1 cost.length=[(4,[])] from if_pos h1)
   go_wp2_with (at_builtin;refine wp_app1r el_fault rfl _ _ rfl (w.alloc (linO A cost.length ca R rs.length cr)).heap.size _ _ _ _ _ #[.int .i64 4,.string (B [])] rfl (OwnR.nil _ _ _ _) (by rw [World.size_alloc];rfl) rfl (by simp [Value.oneCell']) (by unfold maxLen;omega) (by omega) (Nat.le_refl _) ?_;intro A3 c3 w3 hown3 hb3)
   go_meet
   rw [HH.out]
   exact ⟨⟨A3,c3,rfl,hown3⟩,hb3⟩
  ·have h1':¬ (8192:Int)<(cost.length:Int):=by omega
   have HH:=Lib.hid (show head1 cost.length=[] from if_neg h1)
   go_wp2_with fail
   go_meet
   rw [HH.out]
   exact ⟨⟨none,0,rfl,OwnR.nil _ _ _ _⟩,Below.refl _ _⟩
 case rest =>
  obtain ⟨⟨F1,c1,rfl,hown1⟩,hbc⟩:=hcut
  have hlin:=lin_cells hbc
  have hl1:(head1 cost.length).length≤1:=by unfold head1;split <;> simp
  generalize hh1:head1 cost.length=l1 at *
  clear hh1
  obtain ⟨d0,d1,d2⟩:=hlin
  go_upto_if 16 with fail
  go_cut [3] (fun v w2=>FaultsAt w2 (w.alloc (linO A cost.length ca R rs.length cr)).heap.size v (l1 ++ head2 rs.length)∧Below (w.alloc (linO A cost.length ca R rs.length cr)).heap.size (w.alloc (linO A cost.length ca R rs.length cr)) w2)
  case first =>
   by_cases h1:64<rs.length
   ·have h1':(64:Int)<(rs.length:Int):=by omega
    have HH:=Lib.hid (show l1 ++ head2 rs.length=l1 ++ [(4,[])] by rw [show head2 rs.length=[(4,[])] from if_pos h1])
    go_wp2_with (at_builtin;refine wp_app1r el_fault rfl _ _ rfl (w.alloc (linO A cost.length ca R rs.length cr)).heap.size _ _ _ _ _ #[.int .i64 4,.string (B [])] rfl hown1 rfl rfl (by simp [Value.oneCell']) (by unfold maxLen;omega) (by omega) hbc.size ?_;intro A3 c3 w3 hown3 hb3;rw [show (#[Value.int .i64 4,Value.string (B [])]:Array Value).toList=[.int .i64 4,.string (B [])] from rfl,fcells_snoc] at hown3;rw [snoc_len l1 (4,[])] at hown3 ⊢)
    go_meet
    rw [HH.out]
    exact ⟨⟨A3,c3,by rw [← snoc_len],hown3⟩,hbc.trans hb3⟩
   ·have h1':¬ (64:Int)<(rs.length:Int):=by omega
    have HH:=Lib.hid (show l1 ++ head2 rs.length=l1 by rw [show head2 rs.length=[] from if_neg h1,List.append_nil])
    go_wp2_with fail
    go_meet
    rw [HH.out]
    exact ⟨⟨F1,c1,rfl,hown1⟩,hbc⟩
  case rest =>
   clear hown1 d0 d1 d2 hbc
   obtain ⟨hfa,hbc⟩:=hcut
   rw [← HK0.out] at hfa
   obtain ⟨d0,d1,d2⟩:=lin_cells hbc
   go_wp2_with fail
   clear d0 d1 d2
   go_loopw [3,4] (fun v i wr=>∃ k:Nat,k≤rs.length∧i=.int .i64 k∧FaultsAt wr (w.alloc (linO A cost.length ca R rs.length cr)).heap.size v (K k)∧Below (w.alloc (linO A cost.length ca R rs.length cr)).heap.size (w.alloc (linO A cost.length ca R rs.length cr)) wr) (fun _ i _=>rs.length - (intOf i).toNat)
   case atStart=>exact ⟨0,Nat.zero_le _,rfl,hfa,hbc⟩
   case round =>
    clear hfa hbc
    obtain ⟨k,hk,rfl,⟨F,cf,rfl,hown⟩,hbel0⟩:=hrel
    have hbel:=HBW.out wr hbel0
    by_cases hlt:k<rs.length
    ·obtain ⟨bR,oR,rfl,hbR,hcR⟩:=HP.out.rows.at (by omega)
     have hc0:=(hbel.cell (p:=⟨bR,oR+k*3,none⟩) hbR).trans (hcR k hlt).1
     have hc1:=(hbel.cell (p:=⟨bR,oR+k*3+1,none⟩) hbR).trans (hcR k hlt).2.1
     have hc2:=(hbel.cell (p:=⟨bR,oR+k*3+2,none⟩) hbR).trans (hcR k hlt).2.2
     have HC1:=Lib.hid (fun (w':World) (h:Below w.heap.size w w')=>(h.cell (p:=⟨bR,oR+k*3+1,none⟩) hbR).trans (hcR k hlt).2.1)
     clear hcR
     have hks:=HKS.out k hlt
     have hkl:=HKL.out k
     have hok:=HP.out.ok rs[k] (List.getElem_mem hlt)
     have hrl1:=hok.1
     have hrl2:=hok.2.1
     unfold maxLen at hrl2
     generalize rs[k]=r at *
     clear hok
     have hfk:fits (k:Int):=by constructor <;> omega
     obtain ⟨d0,d1,d2⟩:=lin_cells hbel0
     have HD:=Lib.hid (fun (w:World)=>rdecimal_any (k:Int) w hfk)
     have HNX:=Lib.hid (show ∀ l,l=K k ++ rowF cost.length k r.L→K (k+1)=l from fun l h=>hks.trans h.symm)
     generalize K k=l at *
     generalize hrk:rowF cost.length k r.L=rf at *
     unfold rowF at hrk
     generalize decI (k:Int)=dk at *
     by_cases q1:r.L.coef.length=cost.length
     ·have q1':((r.L.coef.length:Int) != (cost.length:Int))=false:=by rw [q1];simp
      rw [if_pos q1] at hrk
      clear q1
      by_cases k1:r.L.kind<1
      ·rw [if_pos (.inl k1)] at hrk
       have HRF:=Lib.hid (HNX.out (l ++ [(8,dk)]) (by rw [← hrk];simp))
       clear hrk
       go_wp2_with fail
       go_quiet (fail)
       go_wp2_with fail
       have hq:=below_drewN (Below.refl wr.heap.size wr) nq
       have aq:=below_drewN hbel0 nq
       have hownq:=hown.below hq
       refine (HD.out _).mono ?_
       rintro e w2 ⟨rfl,hb2⟩
       have a2:=aq.trans (hb2.mono aq.size)
       have hown2:=hownq.below hb2
       go_wp2_with (at_builtin;refine wp_app1r el_fault rfl _ _ rfl (w.alloc (linO A cost.length ca (some ⟨bR,oR,none⟩) rs.length cr)).heap.size _ _ _ _ _ #[.int .i64 8,.string (B dk)] rfl hown2 rfl rfl (by simp [Value.oneCell']) (by unfold maxLen;omega) (by omega) a2.size ?_;intro A3 c3 w3 hown3 hb3;rw [show (#[Value.int .i64 8,Value.string (B dk)]:Array Value).toList=[.int .i64 8,.string (B dk)] from rfl,fcells_snoc] at hown3;have b3:=a2.trans hb3)
       go_roundw
       case rel=>exact ⟨k+1,by omega,by go_num,by rw [HRF.out];exact ⟨A3,c3,by rw [← snoc_len],by rw [← snoc_len];exact hown3⟩,b3⟩
       case measure=>simp [intOf];omega
      ·by_cases k3:3<r.L.kind
       ·rw [if_pos (.inr k3)] at hrk
        have HRF:=Lib.hid (HNX.out (l ++ [(8,dk)]) (by rw [← hrk];simp))
        clear hrk
        go_wp2_with fail
        go_quiet (fail)
        go_wp2_with fail
        have hq:=below_drewN (Below.refl wr.heap.size wr) nq
        have aq:=below_drewN hbel0 nq
        have hownq:=hown.below hq
        refine (HD.out _).mono ?_
        rintro e w2 ⟨rfl,hb2⟩
        have a2:=aq.trans (hb2.mono aq.size)
        have hown2:=hownq.below hb2
        go_wp2_with (at_builtin;refine wp_app1r el_fault rfl _ _ rfl (w.alloc (linO A cost.length ca (some ⟨bR,oR,none⟩) rs.length cr)).heap.size _ _ _ _ _ #[.int .i64 8,.string (B dk)] rfl hown2 rfl rfl (by simp [Value.oneCell']) (by unfold maxLen;omega) (by omega) a2.size ?_;intro A3 c3 w3 hown3 hb3;rw [show (#[Value.int .i64 8,Value.string (B dk)]:Array Value).toList=[.int .i64 8,.string (B dk)] from rfl,fcells_snoc] at hown3;have b3:=a2.trans hb3)
        go_roundw
        case rel=>exact ⟨k+1,by omega,by go_num,by rw [HRF.out];exact ⟨A3,c3,by rw [← snoc_len],by rw [← snoc_len];exact hown3⟩,b3⟩
        case measure=>simp [intOf];omega
       ·rw [if_neg (fun h=>h.elim k1 k3)] at hrk
        have HRF:=Lib.hid (HNX.out (l) (by rw [← hrk];simp))
        clear hrk
        go_wp2_with fail
        go_quiet (fail)
        go_wp2_with fail
        have hq:=below_drewN (Below.refl wr.heap.size wr) nq
        have aq:=below_drewN hbel0 nq
        have hownq:=hown.below hq
        go_roundw
        case rel=>exact ⟨k+1,by omega,by go_num,by rw [HRF.out];exact ⟨F,cf,rfl,hownq⟩,aq⟩
        case measure=>simp [intOf];omega
     ·have q1':((r.L.coef.length:Int) != (cost.length:Int))=true:=by rw [bne_iff_ne];omega
      rw [if_neg q1] at hrk
      clear q1
      by_cases k1:r.L.kind<1
      ·rw [if_pos (.inl k1)] at hrk
       have HRF:=Lib.hid (HNX.out (l ++ [(2,dk)] ++ [(8,dk)]) (by rw [← hrk];simp))
       clear hrk
       go_wp2_with fail
       go_quiet (fail)
       go_wp2_with fail
       have hq:=below_drewN (Below.refl wr.heap.size wr) nq
       have aq:=below_drewN hbel0 nq
       have hownq:=hown.below hq
       refine (HD.out _).mono ?_
       rintro e w2 ⟨rfl,hb2⟩
       have a2:=aq.trans (hb2.mono aq.size)
       have hown2:=hownq.below hb2
       go_wp2_with (at_builtin;refine wp_app1r el_fault rfl _ _ rfl (w.alloc (linO A cost.length ca (some ⟨bR,oR,none⟩) rs.length cr)).heap.size _ _ _ _ _ #[.int .i64 2,.string (B dk)] rfl hown2 rfl rfl (by simp [Value.oneCell']) (by unfold maxLen;omega) (by omega) a2.size ?_;intro A3 c3 w3 hown3 hb3;rw [show (#[Value.int .i64 2,Value.string (B dk)]:Array Value).toList=[.int .i64 2,.string (B dk)] from rfl,fcells_snoc] at hown3;have b3:=a2.trans hb3;obtain ⟨q0,q1,q2⟩:=lin_cells b3;have e1:=HC1.out _ (HBW.out _ b3))
       refine (HD.out w3).mono ?_
       rintro e w4 ⟨rfl,hb4⟩
       have a4:=b3.trans (hb4.mono b3.size)
       have hown4:=hown3.below hb4
       go_wp2_with (at_builtin;refine wp_app1r el_fault rfl _ _ rfl (w.alloc (linO A cost.length ca (some ⟨bR,oR,none⟩) rs.length cr)).heap.size _ _ _ _ _ #[.int .i64 8,.string (B dk)] rfl hown4 rfl rfl (by simp [Value.oneCell']) (by unfold maxLen;omega) (by omega) a4.size ?_;intro A5 c5 w5 hown5 hb5;rw [show (#[Value.int .i64 8,Value.string (B dk)]:Array Value).toList=[.int .i64 8,.string (B dk)] from rfl,fcells_snoc] at hown5;have b5:=a4.trans hb5)
       go_roundw
       case rel=>exact ⟨k+1,by omega,by go_num,by rw [HRF.out];exact ⟨A5,c5,by rw [← snoc_len,← snoc_len],by rw [← snoc_len,← snoc_len];exact hown5⟩,b5⟩
       case measure=>simp [intOf];omega
      ·by_cases k3:3<r.L.kind
       ·rw [if_pos (.inr k3)] at hrk
        have HRF:=Lib.hid (HNX.out (l ++ [(2,dk)] ++ [(8,dk)]) (by rw [← hrk];simp))
        clear hrk
        go_wp2_with fail
        go_quiet (fail)
        go_wp2_with fail
        have hq:=below_drewN (Below.refl wr.heap.size wr) nq
        have aq:=below_drewN hbel0 nq
        have hownq:=hown.below hq
        refine (HD.out _).mono ?_
        rintro e w2 ⟨rfl,hb2⟩
        have a2:=aq.trans (hb2.mono aq.size)
        have hown2:=hownq.below hb2
        go_wp2_with (at_builtin;refine wp_app1r el_fault rfl _ _ rfl (w.alloc (linO A cost.length ca (some ⟨bR,oR,none⟩) rs.length cr)).heap.size _ _ _ _ _ #[.int .i64 2,.string (B dk)] rfl hown2 rfl rfl (by simp [Value.oneCell']) (by unfold maxLen;omega) (by omega) a2.size ?_;intro A3 c3 w3 hown3 hb3;rw [show (#[Value.int .i64 2,Value.string (B dk)]:Array Value).toList=[.int .i64 2,.string (B dk)] from rfl,fcells_snoc] at hown3;have b3:=a2.trans hb3;obtain ⟨q0,q1,q2⟩:=lin_cells b3;have e1:=HC1.out _ (HBW.out _ b3))
        refine (HD.out w3).mono ?_
        rintro e w4 ⟨rfl,hb4⟩
        have a4:=b3.trans (hb4.mono b3.size)
        have hown4:=hown3.below hb4
        go_wp2_with (at_builtin;refine wp_app1r el_fault rfl _ _ rfl (w.alloc (linO A cost.length ca (some ⟨bR,oR,none⟩) rs.length cr)).heap.size _ _ _ _ _ #[.int .i64 8,.string (B dk)] rfl hown4 rfl rfl (by simp [Value.oneCell']) (by unfold maxLen;omega) (by omega) a4.size ?_;intro A5 c5 w5 hown5 hb5;rw [show (#[Value.int .i64 8,Value.string (B dk)]:Array Value).toList=[.int .i64 8,.string (B dk)] from rfl,fcells_snoc] at hown5;have b5:=a4.trans hb5)
        go_roundw
        case rel=>exact ⟨k+1,by omega,by go_num,by rw [HRF.out];exact ⟨A5,c5,by rw [← snoc_len,← snoc_len],by rw [← snoc_len,← snoc_len];exact hown5⟩,b5⟩
        case measure=>simp [intOf];omega
       ·rw [if_neg (fun h=>h.elim k1 k3)] at hrk
        have HRF:=Lib.hid (HNX.out (l ++ [(2,dk)]) (by rw [← hrk];simp))
        clear hrk
        go_wp2_with fail
        go_quiet (fail)
        go_wp2_with fail
        have hq:=below_drewN (Below.refl wr.heap.size wr) nq
        have aq:=below_drewN hbel0 nq
        have hownq:=hown.below hq
        refine (HD.out _).mono ?_
        rintro e w2 ⟨rfl,hb2⟩
        have a2:=aq.trans (hb2.mono aq.size)
        have hown2:=hownq.below hb2
        go_wp2_with (at_builtin;refine wp_app1r el_fault rfl _ _ rfl (w.alloc (linO A cost.length ca (some ⟨bR,oR,none⟩) rs.length cr)).heap.size _ _ _ _ _ #[.int .i64 2,.string (B dk)] rfl hown2 rfl rfl (by simp [Value.oneCell']) (by unfold maxLen;omega) (by omega) a2.size ?_;intro A3 c3 w3 hown3 hb3;rw [show (#[Value.int .i64 2,Value.string (B dk)]:Array Value).toList=[.int .i64 2,.string (B dk)] from rfl,fcells_snoc] at hown3;have b3:=a2.trans hb3;obtain ⟨q0,q1,q2⟩:=lin_cells b3;have e1:=HC1.out _ (HBW.out _ b3))
        go_roundw
        case rel=>exact ⟨k+1,by omega,by go_num,by rw [HRF.out];exact ⟨A3,c3,by rw [← snoc_len],by rw [← snoc_len];exact hown3⟩,b3⟩
        case measure=>simp [intOf];omega
    ·have hkx:k=rs.length:=by omega
     have HF:=Lib.hid (show FaultsAt wr (w.alloc (linO A cost.length ca R rs.length cr)).heap.size (.slice F (K k).length cf) (K rs.length) by rw [show K rs.length=K k by rw [hkx]];exact ⟨F,cf,rfl,hown⟩)
     clear hkx
     obtain ⟨d0,d1,d2⟩:=lin_cells hbel0
     go_wp2_with fail
     go_ret
     exact HFIN.out _ _ hbel0 HF.out
end Go.Proofs.YtmppmdmekomjbaaGreatDoor

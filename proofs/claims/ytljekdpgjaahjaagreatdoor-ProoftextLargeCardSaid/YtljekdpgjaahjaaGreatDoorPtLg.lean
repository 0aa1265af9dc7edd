/- The law ProoftextLarge. -/
import Derived.Test.YtljekdpgjaahjaaGreatDoorPtLp
import Derived.Test.YtljekdpgjaahjaaGreatDoorG3
namespace Go.Proofs.YtljekdpgjaahjaaGreatDoor
open Go.RowKit Num Txt Pf
set_option linter.unusedVariables false
attribute [local go_sem] B_size B_get B_toList B_mk B_extract B_append
def nodeCells (n:Nat):Array Value:=madeCells #[.bool false,.int .i64 0,.slice none 0 0,.slice none 0 0,.int .i64 0,.int .i64 0,.int .i64 0,.int .i64 0,.int .i64 0,.int .i64 0] (n*10)
theorem make_nodes (n:Nat) (hn:n≤10000) (w:World) :
  (Instr.makeSlice 26 (.int .i64 (n:Int)) (.int .i64 (n:Int))).run Tryz.prog w=.ok (.slice (some ⟨w.heap.size,0,none⟩) n n) (w.alloc (.cells (nodeCells n) 45)):=by
 obtain ⟨i,hi,hz,hs,hb⟩:=info_parts pnode_info
 have:=run_make_rowN (P:=Tryz.prog) 26 45 i _ Tryz.underlying26 hi hz .i64 .i64 n n (Nat.le_refl _) (by rw [hb];omega) (by omega) w
 rw [hs] at this
 exact this
abbrev nodeM0:NodeM:=⟨none,0,none,0,node0⟩
theorem nodeCells_list (n:Nat):(nodeCells n).toList=(List.replicate n nodeM0).flatMap NodeM.cells:=by
 have hl:(nodeCells n).toList.length=n*10:=by unfold nodeCells madeCells;simp
 have hr:=flat_length NodeM.cells NodeM.cells_len (List.replicate n nodeM0)
 rw [List.length_replicate] at hr
 apply List.ext_getElem?
 intro i
 rcases Nat.lt_or_ge i (n*10) with hi | hi
 ·have hd:i / 10<n:=Nat.div_lt_of_lt_mul (by rw [Nat.mul_comm];exact hi)
  have hm:i % 10<10:=Nat.mod_lt _ (by decide)
  have e:i / 10*10+i % 10=i:=by omega
  have h1:=flat_get NodeM.cells NodeM.cells_len (List.replicate n nodeM0) (i / 10) (by rw [List.length_replicate];exact hd) (i % 10) hm
  rw [e,List.getElem_replicate] at h1
  rw [h1,List.getElem?_eq_getElem (by rw [hl];exact hi)]
  have h2:(nodeCells n).toList[i]'(by rw [hl];exact hi)=(#[Value.bool false,.int .i64 0,.slice none 0 0,.slice none 0 0,.int .i64 0,.int .i64 0,.int .i64 0,.int .i64 0,.int .i64 0,.int .i64 0]:Array Value)[i % 10]! := by
   unfold nodeCells madeCells
   simp
  rw [h2]
  have h3:∀ j,j<10→some ((#[Value.bool false,.int .i64 0,.slice none 0 0,.slice none 0 0,.int .i64 0,.int .i64 0,.int .i64 0,.int .i64 0,.int .i64 0,.int .i64 0]:Array Value)[j]!)=nodeM0.cells[j]? := by
   intro j hj
   have:j=0∨j=1∨j=2∨j=3∨j=4∨j=5∨j=6∨j=7∨j=8∨j=9:=by omega
   rcases this with rfl | rfl | rfl | rfl | rfl | rfl | rfl | rfl | rfl | rfl <;> rfl
  exact h3 _ hm
 ·rw [List.getElem?_eq_none (by rw [hl];exact hi),List.getElem?_eq_none (by rw [hr];exact hi)]
abbrev manyM (g n:Nat):ProofM:=⟨true,⟨none,0,[],none,0,[]⟩,some ⟨g,0,none⟩,n,List.replicate n nodeM0⟩
theorem manyM_v (g n:Nat):(manyM g n).v=pz n:=by
 show (⟨true,⟨[],[]⟩,(List.replicate n nodeM0).map (·.n)⟩:ProofV)=_
 rw [List.map_replicate]
theorem manyM_at {w:World} {g n:Nat} (h:w.heap[g]? = some (.cells (nodeCells n) 45)) (hn:n≤10000):ProofAt w (manyM g n):=by
 have h':w.heap[g]? = some (.cells ((List.replicate n nodeM0).flatMap NodeM.cells).toArray 45):=by
  rw [h,← nodeCells_list]
 exact ⟨(PlanO.nil w 0).at_,cells_obj h',fun x hx=>by
  rw [List.eq_of_mem_replicate hx]
  exact ⟨Cells.nil _ _,Cells.nil _ _,⟨Nat.le_refl _,Nat.zero_le _⟩,⟨Nat.le_refl _,Nat.zero_le _⟩,fun d hd=>absurd hd (by simp),fits_zero,fun c hc=>absurd hc (by simp),fits_zero,fits_zero,fits_zero,fits_zero,fits_zero,fits_zero⟩,⟨by show (List.replicate n nodeM0).length≤n;rw [List.length_replicate];exact Nat.le_refl _,by show n≤maxLen;unfold maxLen;omega⟩⟩
theorem make_bytesI (n:Nat) (hn:n≤1000000) (w:World) :
  (Instr.makeSlice 38 (.int .i64 (n:Int)) (.int .i64 (n:Int))).run Tryz.prog w=.ok (.slice (some ⟨w.heap.size,0,none⟩) n n) (w.alloc (.cells (zeros n) 5)):=by
 obtain ⟨i,hi,hz,hs,hb⟩:=info_parts byte_info
 have:=run_make_rowN (P:=Tryz.prog) 38 5 i (.int .u8 0) Tryz.underlying38 hi hz .i64 .i64 n n (Nat.le_refl _) (by rw [hb];omega) (by omega) w
 rw [hs,Nat.mul_one] at this
 exact this
theorem large_parse (N:Nat) (w:World) (h:N≤1024) (he:EnvP w):Calls Tryz.prog 13 #[.string (B (proofS (pz (N+1))))] w fun e w'=>∃ (m:ProofM) (at_ f:Int),e=.returned (.tuple #[proofA m,.int .i64 at_,.int .i64 f])∧((N=1024∧at_=1026∧f=4)∨(N<1024∧f=0))∧Below w.heap.size w w':=by
 have h1:=parse_any (proofS (pz (N+1))) w (by rw [pz_len];omega) (pz_head _) he
 by_cases hN:N=1024
 ·subst hN
  rw [pz_big] at h1
  refine h1.mono ?_
  rintro e w' ⟨m,rfl,_,_,hb⟩
  exact ⟨m,1026,4,rfl,.inl ⟨rfl,rfl,rfl⟩,hb⟩
 ·rw [pz_parse (by omega)] at h1
  refine h1.mono ?_
  rintro e w' ⟨m,rfl,_,_,hb⟩
  exact ⟨m,0,0,rfl,.inr ⟨by omega,rfl⟩,hb⟩
theorem xs_any (L:Nat) (w:World) (h:L≤70000) (he:EnvP w):Calls Tryz.prog 13 #[.string (B (List.replicate L 120))] w fun e w'=>∃ (m:ProofM) (at_ f:Int),e=.returned (.tuple #[proofA m,.int .i64 at_,.int .i64 f])∧((65536<L∧at_=0∧f=4)∨(L≤65536∧at_=1∧f=3))∧Below w.heap.size w w':=by
 have h1:=parse_any (List.replicate L 120) w (by rw [List.length_replicate];exact h) (xs_head L) he
 rw [xs_parse] at h1
 by_cases hL:L > 65536
 ·rw [if_pos hL,if_pos hL] at h1
  refine h1.mono ?_
  rintro e w' ⟨m,rfl,_,_,hb⟩
  exact ⟨m,0,4,rfl,.inl ⟨hL,rfl,rfl⟩,hb⟩
 ·rw [if_neg hL,if_neg hL] at h1
  refine h1.mono ?_
  rintro e w' ⟨m,rfl,_,_,hb⟩
  exact ⟨m,1,3,rfl,.inr ⟨by omega,rfl,rfl⟩,hb⟩
theorem bytes_put (L k:Nat) (h:k<L):(bytes (List.replicate k 120 ++ List.replicate (L - k) 0)).set k (.int .u8 120)=bytes (List.replicate (k+1) 120 ++ List.replicate (L - (k+1)) 0):=by
 unfold bytes
 rw [show L - k=(L - (k+1))+1 by omega,List.replicate_succ,List.map_append,List.map_append,List.map_cons,List.replicate_succ',List.map_append,List.set_append_right _ _ (by simp)]
 simp
set_option maxHeartbeats 8000000 in
set_option maxRecDepth 100000 in
theorem large_core (a b:Int) (N L:Nat) (w:World) (ha0:0≤a) (ha1:a≤255) (hb0:0≤b) (hb1:b≤255) (hN:1022+a % 5=(N:Int)) (hL:65534+b % 5=(L:Int)) (hN1:1022≤N∧N≤1026) (hL1:L≤65538) (he:EnvP w) :
  Calls Tryz.prog 7 #[.int .u8 a,.int .u8 b] w fun e w'=>e=.returned (.bool true)∧Below w.heap.size w w':=by
 have mk:=make_nodes N (by omega) w
 obtain ⟨n1,p1⟩:=new_at w (.cells (nodeCells N) 45)
 have hs1:(w.alloc (.cells (nodeCells N) 45)).heap.size=w.heap.size+1:=Array.size_push ..
 obtain ⟨n2,p2⟩:=new_at (w.alloc (.cells (nodeCells N) 45)) (.cells #[.bool true,.slice none 0 0,.slice none 0 0,.slice (some ⟨w.heap.size,0,none⟩) N N] 28)
 rw [hs1] at p2
 have hb2:=below_lift n1 n2
 have hAt:=manyM_at (row_keep p1 n2) (by omega)
 have HE:=Lib.hid he
 clear n1 p1 hs1 n2 he
 go_enter Tryz.func7,Tryz.ntmps7
 simp only [B_mk]
 go_upto_region 2 with fail
 generalize (w.alloc (.cells (nodeCells N) 45)).alloc (.cells #[.bool true,.slice none 0 0,.slice none 0 0,.slice (some ⟨w.heap.size,0,none⟩) N N] 28)=w2 at *
 generalize w.heap.size+1=pb at *
 have HB2:=Lib.hid hb2
 have HP2:=Lib.hid p2
 have hpr:=pprintp_any (manyM w.heap.size N) w2 hAt (Nat.zero_le _) (Nat.zero_le _) (fun r hr=>absurd hr (by simp)) (show (planS ⟨[],[]⟩).length≤10000 by decide) (fun x hx=>by
  rw [List.eq_of_mem_replicate hx]
  exact ⟨Nat.zero_le _,Nat.zero_le _,fun d hd=>absurd hd (by simp)⟩) (HE.out.below hb2).1
 rw [manyM_v,pz_print] at hpr
 have hpl:proofA (manyM w.heap.size N)=.agg #[.bool true,.slice none 0 0,.slice none 0 0,.slice (some ⟨w.heap.size,0,none⟩) N N]:=by
  show Value.agg #[.bool true,.slice none 0 0,.slice none 0 0,.slice (some ⟨w.heap.size,0,none⟩) (List.replicate N nodeM0).length N]=_
  rw [List.length_replicate]
 rw [hpl] at hpr
 clear hb2 p2 hAt hpl mk
 obtain ⟨c0,c1,c2,c3⟩:=cells4 HP2.out
 by_cases hbig:N > 1024
 ·have hbi:(1024:Int)<(N:Int):=by omega
  rw [if_pos hbig] at hpr
  have HPR:=Lib.hid hpr
  clear hpr
  go_wp2_with fail
  refine HPR.out.mono ?_
  rintro e w3 ⟨rfl,hb3⟩
  have HB3:=Lib.hid (below_lift HB2.out hb3)
  have HP3:=Lib.hid (row_keep HP2.out hb3)
  have HA:=Lib.hid (awake39_any w3 (HE.out.below HB3.out))
  clear hb3 c0 c1 c2 c3 HPR
  obtain ⟨c0,c1,c2,c3⟩:=cells4 HP3.out
  go_wp2_with fail
  refine HA.out.mono ?_
  rintro e w4 ⟨rfl,hb4⟩
  go_wp2_with fail
  go_ret
  exact ⟨rfl,below_lift HB3.out hb4⟩
 ·have hbi:¬ (1024:Int)<(N:Int):=by omega
  rw [if_neg hbig] at hpr
  have HPR:=Lib.hid hpr
  have hlen:=pz_len N
  have HCT:=Lib.hid (pz_cut N)
  have HLP:=Lib.hid (fun w' (hb:Below w.heap.size w w')=>large_parse N w' (by omega) (HE.out.below hb))
  generalize proofS (pz (N+1))=T2 at *
  generalize proofS (pz N)=T1 at *
  have HLEN:=Lib.hid hlen
  have e1:((T1.length:Int) != 15+17*(N:Int))=false:=by rw [bne_eq_false_iff_eq];omega
  have hl4:4≤T1.length:=by omega
  have hl9:T1.length≤20000:=by omega
  clear hpr hlen
  go_wp2_with fail
  refine HPR.out.mono ?_
  rintro e w3 ⟨rfl,hb3⟩
  have HB3:=Lib.hid (below_lift HB2.out hb3)
  have HP3:=Lib.hid (row_keep HP2.out hb3)
  have HLP3:=Lib.hid (HLP.out w3 (below_lift HB2.out hb3))
  clear hb3 c0 c1 c2 c3 HPR HLP
  obtain ⟨c0,c1,c2,c3⟩:=cells4 HP3.out
  go_upto_region 7 with fail
  go_wp2_with fail
  rw [show T1.take (T1.length - 4) ++ [110,111,100,101,32,48,32,48,32,48,32,48,32,48,32,48,10,101,110,100,10]=T2 by rw [HLEN.out];exact HCT.out]
  refine HLP3.out.mono ?_
  rintro e w4 ⟨m2,at_,f,rfl,hcase,hb4⟩
  obtain ⟨n5,p5⟩:=new_at w4 (proofB m2)
  have HB5:=Lib.hid (below_lift HB3.out (below_lift hb4 n5))
  have HP5:=Lib.hid (row_keep HP3.out (below_lift hb4 n5))
  have HCS:=Lib.hid hcase
  clear hcase hb4 n5 p5 c0 c1 c2 c3 HLP3
  go_upto_region 8 with fail
  generalize w4.alloc (proofB m2)=w5 at *
  obtain ⟨c0,c1,c2,c3⟩:=cells4 HP5.out
  have mkb:=make_bytesI L (by omega) w5
  obtain ⟨n6,p6⟩:=new_at w5 (.cells (zeros L) 5)
  have HOW:=Lib.hid (OwnS.zeros w5 L w5.heap.size (Nat.le_refl _) (by omega))
  have HB6:=Lib.hid (below_lift HB5.out n6)
  have hcs2:(N=1024∧at_=1026∧f=4)∨(N<1024∧f=0):=HCS.out
  clear n6 p6 HCS
  rcases hcs2 with ⟨hN2,rfl,rfl⟩ | ⟨hN2,rfl⟩
  all_goals first
   |(have g1:((N:Int) == 1024)=true:=by rw [hN2];rfl
     have g2:¬ (N:Int)<1024:=by omega)
   |(have g1:((N:Int) == 1024)=false:=by rw [beq_eq_false_iff_ne];omega
     have g2:(N:Int)<1024:=by omega)
  all_goals clear hN2
  all_goals go_upto_region 11 with fail
  all_goals
   generalize w5.alloc (.cells (zeros L) 5)=w6 at *
   have HGB:=Lib.hid (show w.heap.size≤w5.heap.size from HB5.out.size)
   generalize w5.heap.size=g at *
   have HXS:=Lib.hid (fun w' (hb:Below w.heap.size w w')=>xs_any L w' (by omega) (HE.out.below hb))
   have HAW:=Lib.hid (fun w' (hb:Below w.heap.size w w')=>awake39_any w' (HE.out.below hb))
   clear mkb c0 c1 c2 c3 HB5 HP5 g1 g2 HLEN HCT e1 hl4 hl9
   go_wp2_with fail
   go_loopw [12] (fun i wr=>∃ k:Nat,k≤L∧i=.int .i64 k∧OwnS wr g 5 (some ⟨g,0,none⟩) L L (bytes (List.replicate k 120 ++ List.replicate (L - k) 0))∧Below w.heap.size w wr) (fun i _=>L - (intOf i).toNat)
   case atStart=>exact ⟨0,Nat.zero_le _,rfl,by simpa using HOW.out,HB6.out⟩
   case round =>
    clear HOW HB6
    obtain ⟨k,hk,rfl,hown,hbel⟩:=hrel
    by_cases hlt:k<L
    ·have hlt1:(k:Int)<(L:Int):=by omega
     have HPUT:=Lib.hid (bytes_put L k hlt)
     have hst:=hown.stored k (.int .u8 120)
     obtain ⟨g',hg',_,hgl,hcell,hfrz⟩:=hown.at_ (show 0<L by omega)
     injection hg' with hg'
     injection hg' with hg' _ _
     subst hg'
     have x0:=hcell k hlt
     have z0:=hfrz k
     have hbl:(bytes (List.replicate k 120 ++ List.replicate (L - k) 0))[k]? = some (.int .u8 0):=by
      unfold bytes
      rw [List.getElem?_map,List.getElem?_append_right (by simp)]
      simp [List.getElem?_replicate];omega
     rw [hbl] at x0
     rw [HPUT.out] at hst
     have HST:=Lib.hid hst
     clear hst hcell hfrz hown hbl
     go_wp2_with fail
     all_goals first
      |exact ⟨⟨k+1,by omega,by go_num,HST.out,hbel.setCell HGB.out _⟩,by simp [intOf];omega⟩
      |(go_roundw
        case rel=>exact ⟨k+1,by omega,by go_num,HST.out,hbel.setCell HGB.out _⟩
        case measure=>simp [intOf];omega)
    ·have hlt1:¬ (k:Int)<(L:Int):=by omega
     have hke:k=L:=by omega
     subst hke
     rw [show k - k=0 by omega,List.replicate_zero,List.append_nil] at hown
     have hcv:=conv_bytes g k k g (List.replicate k 120) wr (List.length_replicate) hown
     have HX2:=Lib.hid (HXS.out wr hbel)
     generalize List.replicate k 120=XS at *
     go_wp2_with fail
     refine HX2.out.mono ?_
     rintro e w8 ⟨m3,at3,f3,rfl,hcase,hb8⟩
     have HB8:=Lib.hid (below_lift hbel hb8)
     have HA8:=Lib.hid (HAW.out w8 (below_lift hbel hb8))
     clear hb8 hbel hown hcv HX2
     rcases hcase with ⟨h1,rfl,rfl⟩ | ⟨h1,rfl,rfl⟩
     all_goals first
      |(have h2:(65536:Int)<(k:Int):=by omega
        clear h1)
      |(have h2:¬ (65536:Int)<(k:Int):=by omega
        clear h1)
     all_goals
      go_wp2_with fail
      refine HA8.out.mono ?_
      rintro e w9 ⟨rfl,hb9⟩
      go_wp2_with fail
      go_ret
      exact ⟨rfl,below_lift HB8.out hb9⟩
theorem prooftextLarge_walk (a b:Int) (w:World) (wa:(Lit.int .u8 a).wf=true) (wb:(Lit.int .u8 b).wf=true) (ht:Env w) (hr:ErrV w) :
  Calls Tryz.prog 7 #[.int .u8 a,.int .u8 b] w fun e w'=>e=.returned (.bool true)∧Below w.heap.size w w':=by
 have h1:IntKind.u8.min≤a∧a≤IntKind.u8.max:=by simpa [Lit.wf] using wa
 have h2:IntKind.u8.min≤b∧b≤IntKind.u8.max:=by simpa [Lit.wf] using wb
 have a0:0≤a:=h1.1
 have a1:a≤255:=h1.2
 have c0:0≤b:=h2.1
 have c1:b≤255:=h2.2
 exact large_core a b (1022+a % 5).toNat (65534+b % 5).toNat w a0 a1 c0 c1 (by omega) (by omega) (by omega) (by omega) ⟨ht,hr⟩
end Go.Proofs.YtljekdpgjaahjaaGreatDoor

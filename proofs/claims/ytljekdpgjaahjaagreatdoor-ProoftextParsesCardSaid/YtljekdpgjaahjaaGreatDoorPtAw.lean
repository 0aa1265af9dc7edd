/- lorrylaw39.awake. -/
import Derived.Test.YtljekdpgjaahjaaGreatDoorPtPa
import Derived.Test.YtljekdpgjaahjaaGreatDoorG56
namespace Go.Proofs.YtljekdpgjaahjaaGreatDoor
open Go.RowKit Num Txt Pf
set_option linter.unusedVariables false
attribute [local go_sem] B_size B_get B_toList B_mk B_extract B_append
abbrev awNode:NodeV:=⟨true,2,[],[[49],[45,49,47,50]],0,0,0,0,0,0⟩
abbrev awPf:ProofV:=⟨true,⟨[],[]⟩,[awNode]⟩
abbrev awS:Str:=[112,114,111,111,102,32,110,111,110,101,10,108,101,97,102,32,50,32,48,32,50,10,100,117,97,108,32,49,10,100,117,97,108,32,45,49,47,50,10,101,110,100,10]
abbrev awT:Str:=[112,114,111,111,102,32,110,111,110,101,10]
theorem aw_d0:decI 0=[48]:=by unfold decI;rw [if_neg (by decide),show (0:Int).natAbs=0 from rfl,dec_zero]
theorem aw_d2:decI 2=[50]:=by unfold decI;rw [if_neg (by decide),show (2:Int).natAbs=2 from rfl,dec_lt (by decide)];rfl
theorem aw_ok:nodeOK awNode:=⟨by decide,by decide +kernel⟩
theorem aw_text:proofS awPf=awS:=by
 have h:nodeS awNode=lineS [leafW,decI 2,decI 0,decI 2] ++ [].flatMap cutS ++ [[49],[45,49,47,50]].flatMap dualS:=rfl
 unfold proofS
 show headS awPf ++ (nodeS awNode ++ []) ++ lineS [endW]=awS
 rw [h,aw_d0,aw_d2]
 rfl
theorem aw_print:printR awPf=(awS,0):=by
 unfold printR
 rw [if_neg (by decide),if_neg (by simp),if_neg (fun h=>h ((nodesE_zero (l:=[awNode])).2 (fun x hx=>by rw [List.mem_singleton.1 hx];exact aw_ok))),aw_text,if_neg (by decide)]
theorem aw_parse:parseR awS=(awPf,0,0):=by
 have h:=print_parse (p:=awPf) (by rw [aw_print]) (fun x hx=>by
  rw [List.mem_singleton.1 hx]
  exact ⟨by decide,fun c hc=>absurd hc (by simp),by simp,by simp,by decide,by decide,by decide,by decide,by decide,by decide⟩) (.inl rfl)
 rw [aw_print] at h
 exact h
theorem aw_lines:linesG awT=([[112,114,111,111,102,32,110,111,110,101]],[]):=by decide
theorem aw_parse2:parseR awT=(noProof,2,3):=by
 have hh:headR [112,114,111,111,102,32,110,111,110,101]=some (true,⟨[],[]⟩):=headR_of (p:=⟨true,⟨[],[]⟩,[]⟩) (.inl ⟨rfl,rfl⟩)
 unfold parseR
 rw [if_neg (by decide),aw_lines]
 simp only
 rw [hh]
 simp only
 rw [parseF_nil (by simp)]
 rfl
theorem short_head {s:Str} (h:s.length≤6000):∀ l ls,(linesG s).1=l :: ls→∀ a b c,wordsL l=[a,b,c]→(unqS c).length≤6000:=by
 intro l ls hl a b c hw
 have h1:=(lines_le (linesG_of s)).2 l (by rw [hl];simp)
 have h2:=(wordsL_le l).2 c (by rw [hw];simp)
 have h3:=unqS_le c
 omega
abbrev awM (bd bn:Nat):ProofM:=⟨true,⟨none,0,[],none,0,[]⟩,some ⟨bn,0,none⟩,1,[⟨none,0,some ⟨bd,0,none⟩,2,awNode⟩]⟩
theorem awM_at {w:World} {bd bn:Nat} (h1:w.heap[bd]? = some (.cells #[.string (B [49]),.string (B [45,49,47,50])] 46)) (h2:w.heap[bn]? = some (.cells #[.bool true,.int .i64 2,.slice none 0 0,.slice (some ⟨bd,0,none⟩) 2 2,.int .i64 0,.int .i64 0,.int .i64 0,.int .i64 0,.int .i64 0,.int .i64 0] 45)):ProofAt w (awM bd bn) :=
 ⟨(PlanO.nil w 0).at_,cells_obj (l:=[.bool true,.int .i64 2,.slice none 0 0,.slice (some ⟨bd,0,none⟩) 2 2,.int .i64 0,.int .i64 0,.int .i64 0,.int .i64 0,.int .i64 0,.int .i64 0]) h2,fun n hn=>by
  rw [List.mem_singleton.1 hn]
  exact ⟨Cells.nil _ _,cells_obj (l:=[.string (B [49]),.string (B [45,49,47,50])]) h1,⟨Nat.le_refl _,Nat.zero_le _⟩,⟨Nat.le_refl _,(show 2≤maxLen by unfold maxLen;decide)⟩,fun d hd=>by
   have:d=[49]∨d=[45,49,47,50]:=by simpa using hd
   rcases this with rfl | rfl <;> (unfold maxLen;decide),(show fits 2 by decide),fun c hc=>absurd hc (by simp),fits_zero,fits_zero,fits_zero,fits_zero,fits_zero,fits_zero⟩,⟨Nat.le_refl _,(show 1≤maxLen by unfold maxLen;decide)⟩⟩
theorem node_one {ns:List NodeM} {x:NodeV} (h:ns.map (·.n)=[x]):∃ m:NodeM,ns=[m]∧m.n=x:=by
 match ns,h with
 |[m],h=>exact ⟨m,rfl,by injection h⟩
abbrev noM:ProofM:=⟨false,⟨none,0,[],none,0,[]⟩,none,0,[]⟩
theorem noM_at (w:World):ProofAt w noM:=⟨(PlanO.nil w 0).at_,Cells.nil _ _,fun n hn=>absurd hn (by simp),⟨Nat.le_refl _,Nat.zero_le _⟩⟩
theorem aw_back (w:World) (he:EnvP w):Calls Tryz.prog 13 #[.string (B awS)] w fun e w'=>∃ (P:PlanM) (A:Option Addr) (ca:Nat) (x:NodeM),e=.returned (.tuple #[.agg #[.bool true,.slice P.A P.rs.length P.ca,.slice P.C P.us.length P.cc,.slice A 1 ca],.int .i64 0,.int .i64 0])∧x.n=awNode∧P.v=⟨[],[]⟩∧ProofAt w' ⟨true,P,A,ca,[x]⟩∧Below w.heap.size w w':=by
 have h:=parse_any awS w (by decide) (short_head (by decide)) he
 rw [aw_parse] at h
 refine h.mono ?_
 rintro e w' ⟨⟨nn,P,A,ca,ns⟩,rfl,hmv,hma,hb⟩
 have hmv:ProofM.v ⟨nn,P,A,ca,ns⟩=awPf:=hmv
 obtain ⟨x,rfl,hx⟩:=node_one (congrArg ProofV.nodes hmv:ns.map (·.n)=[awNode])
 have hn:nn=true:=congrArg ProofV.none hmv
 have hp:P.v=⟨[],[]⟩:=congrArg ProofV.plan hmv
 subst hn
 exact ⟨P,A,ca,x,rfl,hx,hp,hma,hb⟩
theorem aw_bad (w:World) (he:EnvP w):Calls Tryz.prog 13 #[.string (B awT)] w fun e w'=>∃ m:ProofM,e=.returned (.tuple #[proofA m,.int .i64 2,.int .i64 3])∧Below w.heap.size w w':=by
 have h:=parse_any awT w (by decide) (short_head (by decide)) he
 rw [aw_parse2] at h
 refine h.mono ?_
 rintro e w' ⟨m,rfl,hmv,hma,hb⟩
 exact ⟨m,rfl,hb⟩
set_option maxHeartbeats 8000000 in
set_option maxRecDepth 100000 in
theorem awake39_any (w:World) (he:EnvP w) :
  Calls Tryz.prog 10 #[] w fun e w'=>e=.returned (.bool true)∧Below w.heap.size w w':=by
 have HE:=Lib.hid he
 clear he
 go_enter Tryz.func10,Tryz.ntmps10
 simp only [B_mk]
 go_upto_region 2 with fail
 obtain ⟨n1,p1⟩:=new_at w (.cells #[.string (B [49]),.string (B [45,49,47,50])] 46)
 have hs1:(w.alloc (.cells #[.string (B [49]),.string (B [45,49,47,50])] 46)).heap.size=w.heap.size+1:=Array.size_push ..
 obtain ⟨n2,p2⟩:=new_at (w.alloc (.cells #[.string (B [49]),.string (B [45,49,47,50])] 46)) (.cells #[.bool true,.int .i64 2,.slice none 0 0,.slice (some ⟨w.heap.size,0,none⟩) 2 2,.int .i64 0,.int .i64 0,.int .i64 0,.int .i64 0,.int .i64 0,.int .i64 0] 45)
 have hs2:((w.alloc (.cells #[.string (B [49]),.string (B [45,49,47,50])] 46)).alloc (.cells #[.bool true,.int .i64 2,.slice none 0 0,.slice (some ⟨w.heap.size,0,none⟩) 2 2,.int .i64 0,.int .i64 0,.int .i64 0,.int .i64 0,.int .i64 0,.int .i64 0] 45)).heap.size=w.heap.size+1+1:=by rw [← hs1];exact Array.size_push ..
 obtain ⟨n3,p3⟩:=new_at ((w.alloc (.cells #[.string (B [49]),.string (B [45,49,47,50])] 46)).alloc (.cells #[.bool true,.int .i64 2,.slice none 0 0,.slice (some ⟨w.heap.size,0,none⟩) 2 2,.int .i64 0,.int .i64 0,.int .i64 0,.int .i64 0,.int .i64 0,.int .i64 0] 45)) (.cells #[.bool true,.slice none 0 0,.slice none 0 0,.slice (some ⟨w.heap.size+1,0,none⟩) 1 1] 28)
 rw [hs1] at p2
 rw [hs2] at p3
 have hb3:=below_lift (below_lift n1 n2) n3
 have hAt:=awM_at (row_keep p1 (below_lift n2 n3)) (row_keep p2 n3)
 generalize ((w.alloc (.cells #[.string (B [49]),.string (B [45,49,47,50])] 46)).alloc (.cells #[.bool true,.int .i64 2,.slice none 0 0,.slice (some ⟨w.heap.size,0,none⟩) 2 2,.int .i64 0,.int .i64 0,.int .i64 0,.int .i64 0,.int .i64 0,.int .i64 0] 45)).alloc (.cells #[.bool true,.slice none 0 0,.slice none 0 0,.slice (some ⟨w.heap.size+1,0,none⟩) 1 1] 28)=w3 at *
 generalize w.heap.size+1+1=bp at *
 generalize w.heap.size+1=bn at *
 have HB3:=Lib.hid hb3
 have HA3:=Lib.hid hAt
 have HP3:=Lib.hid p3
 clear n1 p1 hs1 n2 p2 hs2 n3 p3 hb3 hAt
 have HPR:=Lib.hid (pprintp_any (awM w.heap.size bn) w3 HA3.out (Nat.zero_le _) (Nat.zero_le _) (fun r hr=>absurd hr (by simp)) (show (planS ⟨[],[]⟩).length≤10000 by decide) (fun n hn=>by
  rw [List.mem_singleton.1 hn]
  refine ⟨Nat.zero_le _,(show 2≤1000 by decide),fun d hd=>?_⟩
  have:d=[49]∨d=[45,49,47,50]:=by simpa using hd
  rcases this with rfl | rfl <;> decide) (HE.out.below HB3.out).1)
 have hv:(awM w.heap.size bn).v=awPf:=rfl
 rw [hv,aw_print] at HPR
 obtain ⟨a0,a1,a2,a3⟩:=cells4 HP3.out
 go_wp2_with fail
 refine HPR.out.mono ?_
 rintro e w4 ⟨rfl,hb4⟩
 have HB4:=Lib.hid (below_lift HB3.out hb4)
 have HP4:=Lib.hid (row_keep HP3.out hb4)
 have HA4:=Lib.hid (HA3.out.below hb4)
 have HPS:=Lib.hid (aw_back w4 (HE.out.below HB4.out))
 clear hb4 HPR HB3 HP3 HA3 a0 a1 a2 a3 hv
 go_wp2_with fail
 refine HPS.out.mono ?_
 rintro e w5 ⟨PM,A,ca,x,rfl,hx,hpv,hma,hb5⟩
 obtain ⟨n6,p6⟩:=new_at w5 (.cells #[.bool true,.slice PM.A PM.rs.length PM.ca,.slice PM.C PM.us.length PM.cc,.slice A 1 ca] 28)
 have hb6:=below_lift hb5 n6
 have HB6:=Lib.hid (below_lift HB4.out hb6)
 have HP6:=Lib.hid (row_keep HP4.out hb6)
 have HA6:=Lib.hid (HA4.out.below hb6)
 have HM6:=Lib.hid (hma.below n6)
 have HX:=Lib.hid hx
 have HPV:=Lib.hid hpv
 clear hb5 hb6 n6 hma HPS HB4 HP4 HA4 hx hpv
 go_upto_region 4 with fail
 generalize w5.alloc (.cells #[.bool true,.slice PM.A PM.rs.length PM.ca,.slice PM.C PM.us.length PM.cc,.slice A 1 ca] 28)=w6 at *
 generalize w5.heap.size=bq at *
 have HQ6:=Lib.hid p6
 have HBD:=Lib.hid (aw_bad w6 (HE.out.below HB6.out))
 clear p6
 go_wp2_with fail
 refine HBD.out.mono ?_
 rintro e w7 ⟨m3,rfl,hb7⟩
 obtain ⟨n8,p8⟩:=new_at w7 (.cells #[.bool m3.none,.slice m3.P.A m3.P.rs.length m3.P.ca,.slice m3.P.C m3.P.us.length m3.P.cc,.slice m3.A m3.ns.length m3.ca] 28)
 have hb8:=below_lift hb7 n8
 have HB8:=Lib.hid (below_lift HB6.out hb8)
 have HP8:=Lib.hid (row_keep HP6.out hb8)
 have HA8:=Lib.hid (HA6.out.below hb8)
 have HM8:=Lib.hid (HM6.out.below hb8)
 have HQ8:=Lib.hid (row_keep HQ6.out hb8)
 clear hb7 hb8 n8 p8 HBD HB6 HP6 HA6 HM6 HQ6
 go_upto_region 5 with fail
 generalize w7.alloc (.cells #[.bool m3.none,.slice m3.P.A m3.P.rs.length m3.P.ca,.slice m3.P.C m3.P.us.length m3.P.cc,.slice m3.A m3.ns.length m3.ca] 28)=w8 at *
 obtain ⟨a0,a1,a2,a3⟩:=cells4 HP8.out
 obtain ⟨c0,c1,c2,c3⟩:=cells4 HQ8.out
 obtain ⟨b,o,hA,hb,hn⟩:=elems NodeM.cells_len (by decide) HM8.out.nodes (show 0 < [x].length by simp)
 change A=_ at hA
 subst hA
 have hdl:x.n.dual.length=2:=by rw [HX.out];rfl
 have d3:w8.cell? ⟨b,o+3,none⟩=some (.slice x.C 2 x.cc):=by
  have:=hn 0 (by simp) 3 (.slice x.C x.n.dual.length x.cc) rfl
  rw [hdl,Nat.zero_mul,Nat.add_zero] at this
  exact this
 have hca:1≤ca:=HM8.out.nl.1
 have HS1:=Lib.hid (pfSame_any (awM w.heap.size bn) ⟨true,PM,some ⟨b,o,none⟩,ca,[x]⟩ w8 HA8.out HM8.out)
 rw [eqv_true (show (awM w.heap.size bn).v=ProofM.v ⟨true,PM,some ⟨b,o,none⟩,ca,[x]⟩ by
  show awPf=(⟨true,PM.v,[x.n]⟩:ProofV)
  rw [HPV.out,HX.out])] at HS1
 clear hn hdl
 go_wp2_with fail
 refine HS1.out.mono ?_
 rintro e w9 ⟨rfl,hb9⟩
 have HB9:=Lib.hid (below_lift HB8.out hb9)
 have HS2:=Lib.hid (pfSame_any (awM w.heap.size bn) noM w9 (HA8.out.below hb9) (noM_at w9))
 rw [eqv_false (show (awM w.heap.size bn).v≠noM.v from fun h=>by have:=congrArg ProofV.none h;cases this)] at HS2
 have HP9:=Lib.hid (row_keep HP8.out hb9)
 clear hb9 HS1 a0 a1 a2 a3 c0 c1 c2 c3 d3
 obtain ⟨a0,a1,a2,a3⟩:=cells4 HP9.out
 go_wp2_with fail
 refine HS2.out.mono ?_
 rintro e w10 ⟨rfl,hb10⟩
 have hb11:=below_lift HB9.out hb10
 go_wp2_with fail
 go_ret
 exact ⟨rfl,hb11⟩
end Go.Proofs.YtljekdpgjaahjaaGreatDoor

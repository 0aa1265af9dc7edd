/- prooftext.Parse. -/
import Derived.Test.YtljekdpgjaahjaaGreatDoorPtFt
namespace Go.Proofs.YtljekdpgjaahjaaGreatDoor
open Go.RowKit Num Txt Pf
set_option linter.unusedVariables false
attribute [local go_sem] B_size B_get B_toList B_mk B_extract B_append
theorem manyA_cnt {α} {f:Str→Option α}:∀ (k:Nat) (acc:List α) (ls:List Str) (n:Nat) {out:List α} {ls1:List Str} {n1:Nat},manyA f acc k ls n=(some out,ls1,n1)→n1+ls1.length=n+ls.length∧ls1.length≤ls.length
 |0,acc,ls,n,out,ls1,n1,h=>by
  rw [manyA] at h
  injection h with h1 h2
  injection h2 with h2 h3
  subst h2 h3
  exact ⟨rfl,Nat.le_refl _⟩
 |k+1,acc,[],n,out,ls1,n1,h=>by rw [manyA] at h;cases h
 |k+1,acc,l :: ls,n,out,ls1,n1,h=>by
  cases hf:f l with
  |none=>rw [manyA_no hf] at h;cases h
  |some c =>
   rw [manyA_yes hf] at h
   have:=manyA_cnt k _ ls _ h
   rw [List.length_cons]
   omega
theorem leafA_cnt {k a b:Int} {ls:List Str} {n:Nat} {x:NodeV} {ls1:List Str} {n1:Nat} (h:leafA k a b ls n=(some x,ls1,n1)):n1+ls1.length=n+ls.length∧ls1.length≤ls.length:=by
 unfold leafA at h
 by_cases hab:a<0∨b<0
 ·rw [if_pos hab] at h;cases h
 ·rw [if_neg hab] at h
  rcases h1:manyA cutR [] a.toNat ls n with ⟨_ | cs,l2,n2⟩
  ·rw [h1] at h;cases h
  ·rw [h1] at h
   simp only at h
   have e1:=manyA_cnt _ _ _ _ h1
   rcases h2:manyA dualR [] b.toNat l2 n2 with ⟨_ | ds,l3,n3⟩
   ·rw [h2] at h;cases h
   ·rw [h2] at h
    simp only at h
    have e2:=manyA_cnt _ _ _ _ h2
    injection h with _ h
    injection h with h3 h4
    subst h3 h4
    omega
theorem nodeW_cnt {ws:List Str} {ls:List Str} {n:Nat} {x:NodeV} {ls1:List Str} {n1:Nat} (h:nodeW_ ws ls n=(some x,ls1,n1)):n1+ls1.length=n+ls.length∧ls1.length≤ls.length:=by
 unfold nodeW_ at h
 split at h
 ·exact leafA_cnt h
 ·split at h
  ·injection h with _ h
   injection h with h3 h4
   subst h3 h4
   exact ⟨rfl,Nat.le_refl _⟩
  ·cases h
def finR (q:Bool) (P:PlanV) (r:List NodeV × Nat × Int):ProofV × Nat × Int:=if r.2.2=0 then (⟨q,P,r.1⟩,r.2.1,r.2.2) else (⟨false,⟨[],[]⟩,[]⟩,r.2.1,r.2.2)
abbrev noProof:ProofV:=⟨false,⟨[],[]⟩,[]⟩
theorem endW_words:wordsL endW=[endW]∧wordsE endW=0:=words_ok ⟨fun p hp=>by rw [List.mem_singleton.1 hp];exact .inl (by decide),rfl⟩
theorem parseF_nil {f:Nat} {nd:List NodeV} {tb:Bool} {n:Nat} (hf:0<f):parseF f nd [] tb n=([],n+1,3):=by
 obtain ⟨f,rfl⟩:∃ k,f=k+1:=⟨f - 1,by omega⟩
 rw [parseF]
theorem parseF_end {f:Nat} {nd:List NodeV} {ls:List Str} {tb:Bool} {n:Nat} (hf:0<f):parseF f nd (endW :: ls) tb n=if ls=[]∧tb=false then (nd,0,0) else ([],n+2,3):=by
 obtain ⟨f,rfl⟩:∃ k,f=k+1:=⟨f - 1,by omega⟩
 rw [parseF,if_pos rfl]
noncomputable def contF (f:Nat) (nd:List NodeV) (tb:Bool):Option NodeV × List Str × Nat→List NodeV × Nat × Int
 |(none,_,n1)=>([],n1,3)
 |(some x,ls1,n1)=>parseF (f - 1) (nd ++ [x]) ls1 tb n1
theorem parseF_step {f:Nat} {nd:List NodeV} {l:Str} {ls:List Str} {tb:Bool} {n:Nat} (hf:0<f) (hl:l≠endW):parseF f nd (l :: ls) tb n=if nd.length=1024∧begins l=true then ([],n+1,4) else contF f nd tb (nodeR l ls (n+1)):=by
 obtain ⟨f,rfl⟩:∃ k,f=k+1:=⟨f - 1,by omega⟩
 rw [parseF,if_neg hl]
 rfl
theorem parseF_bad {f:Nat} {nd:List NodeV} {l:Str} {ls:List Str} {tb:Bool} {n:Nat} (hf:0<f) (hok:(wordsE l == 0 && decide (0<(wordsL l).length))=false):parseF f nd (l :: ls) tb n=([],n+1,3):=by
 have hl:l≠endW:=by
  intro e
  subst e
  rw [endW_words.1,endW_words.2] at hok
  exact absurd hok (by decide)
 rw [parseF_step hf hl]
 by_cases h:wordsE l=0
 ·have h4:wordsL l=[]:=by
   rw [h] at hok
   have:¬ 0<(wordsL l).length:=by simpa using hok
   exact List.length_eq_zero_iff.1 (by omega)
  have hb:begins l=false:=by rw [begins_w h,h4];rfl
  have hn:nodeR l ls (n+1)=(none,ls,n+1):=by rw [nodeR_w h,h4];rfl
  rw [if_neg (fun x=>by rw [hb] at x;exact absurd x.2 (by decide)),hn];rfl
 ·have hb:begins l=false:=by
   have e:∀ word many,lineN l word many=none:=fun word many=>by unfold lineN;rw [if_neg h]
   unfold begins
   rw [e,e];rfl
  rw [if_neg (fun x=>by rw [hb] at x;exact absurd x.2 (by decide)),nodeR_no h];rfl
theorem end_words {l:Str} (h:wordsE l=0):wordsL l=[endW]↔l=endW:=by
 constructor
 ·intro hw
  have:=(words_eq h).2
  rw [hw] at this
  exact this
 ·intro e;rw [e];exact endW_words.1
structure PaB (w:World) (Bs pb rb:Nat) (q:Bool) (P:PlanM) (A:Option Addr) (ca:Nat) (nd:List NodeM):Prop where
 row:w.heap[pb]? = some (.cells #[.bool q,.slice P.A P.rs.length P.ca,.slice P.C P.us.length P.cc,.slice A nd.length ca] 28)
 res:w.heap[rb]? = some proofZ
 plan:PlanO w Bs P
 own:OwnR w Bs 45 10 A nd.length ca (nd.flatMap NodeM.cells)
 each:∀ m ∈ nd,NodeO w Bs m
section
variable {w w':World} {Bs pb rb g ca n:Nat} {q:Bool} {P:PlanM} {A:Option Addr} {nd:List NodeM} {s:Str}
theorem PaB.below (h:PaB w Bs pb rb q P A ca nd) (hb:Below w.heap.size w w'):PaB w' Bs pb rb q P A ca nd:=⟨row_keep h.row hb,row_keep h.res hb,h.plan.below hb,h.own.below hb,fun m hm=>(h.each m hm).below hb⟩
theorem PaB.kpB (h:PaB w Bs pb rb q P A ca nd) (hk:KpB g w w') (hg:RdAt w g s n) (h1:pb≠g) (h2:rb≠g):PaB w' Bs pb rb q P A ca nd :=
 ⟨hk.row h.row h1,hk.row h.res h2,h.plan.keptB hk hg (by decide) (by decide) (by decide) (by decide),h.own.keptB hk hg (by decide),fun m hm=>(h.each m hm).keptB hk hg (by decide) (by decide)⟩
end
def ParseE (R:ProofV × Nat × Int) (w:World) (e:Ending) (w':World):Prop:=∃ m:ProofM,e=.returned (.tuple #[proofA m,.int .i64 (R.2.1:Int),.int .i64 R.2.2])∧m.v=R.1∧ProofAt w' m∧Below w.heap.size w w'
theorem ParseE.bad {R:ProofV × Nat × Int} {w w':World} {n:Nat} {k e:Int} (h:R=(noProof,n,e)) (hk:(n:Int)=k) (hb:Below w.heap.size w w'):ParseE R w (.returned (.tuple #[.agg #[.bool false,.slice none 0 0,.slice none 0 0,.slice none 0 0],.int .i64 k,.int .i64 e])) w':=by
 subst h hk
 exact ⟨⟨false,⟨none,0,[],none,0,[]⟩,none,0,[]⟩,rfl,rfl,⟨(PlanO.nil w' 0).at_,Cells.nil _ _,fun r hr=>absurd hr (by simp),⟨Nat.le_refl _,Nat.zero_le _⟩⟩,hb⟩
def szR (g:Nat) (w:World):Nat:=match w.cell? ⟨g,0,none⟩ with | some (.string b)=>b.size | _=>0
theorem szR_at {g n:Nat} {w:World} {s:Str} (h:RdAt w g s n):szR g w=s.length:=by unfold szR;rw [h.cells.1];exact B_size s
theorem wrap_two {n:Nat} (h:n≤1000000):IntKind.i64.wrap ((n:Int)+1+1)=((n+2:Nat):Int):=by
 have e:((n:Int)+1+1)=((n+2:Nat):Int):=by omega
 rw [e]
 simp [IntKind.wrap,IntKind.bits,IntKind.signed]
 omega
theorem OwnR.old {w:World} {Bs sz n c:Nat} {e:TypeId} {A:Option Addr} {xs:List Value} (h:OwnR w Bs e sz A n c xs):A≠some ⟨w.heap.size,0,none⟩:=by
 intro e
 subst e
 exact Nat.lt_irrefl _ h.typ.2.1
theorem OwnR.keptN {w w':World} {Bs g sz n c:Nat} {e:TypeId} {A:Option Addr} {xs:List Value} (h:OwnR w Bs e sz A n c xs) (hk:KpB g w w') (hn:A≠some ⟨g,0,none⟩):OwnR w' Bs e sz A n c xs :=
 h.keep fun b hb=>hk.2 b (by subst hb;exact h.typ.2.1) (fun e=>hn (by rw [hb,e]))
theorem PaB.kpN {w w':World} {Bs pb rb g ca:Nat} {q:Bool} {P:PlanM} {A:Option Addr} {nd:List NodeM} {l:Array Value} {z:Nat × Nat} (h:PaB w Bs pb rb q P A ca nd) (hk:KpB g w w') (hg:w.heap[g]? = some (.cells l 45 z)) (hA:A≠some ⟨g,0,none⟩) (h1:pb≠g) (h2:rb≠g):PaB w' Bs pb rb q P A ca nd :=
 ⟨hk.row h.row h1,hk.row h.res h2,h.plan.keptB hk hg (by decide) (by decide) (by decide) (by decide),h.own.keptN hk hA,fun m hm=>(h.each m hm).keptB hk hg (by decide) (by decide)⟩
def PaR (R:ProofV × Nat × Int) (t:Str) (g pb:Nat) (q:Bool) (P:PlanM) (w:World) (ok:Value) (wr:World):Prop :=
 ∃ (s:Str) (n:Nat),RdAt wr g s n∧s.length≤70000∧Below w.heap.size w wr∧wr.heap[w.heap.size]? = some proofZ ∧
  ((ok=.bool false∧R=(noProof,n,3))∨(ok=.bool true∧∃ (ls:List Str) (f:Nat) (A:Option Addr) (ca:Nat) (nd:List NodeM),LinesOf s ls t∧ls.length<f∧n+ls.length≤69001∧nd.length≤n∧R=finR q P.v (parseF f (nd.map (·.n)) ls (!t.isEmpty) n)∧PaB wr w.heap.size pb w.heap.size q P A ca nd))
set_option maxHeartbeats 8000000 in
set_option maxRecDepth 100000 in
theorem parse_any (s0:Str) (w:World) (hs:s0.length≤70000) (hU:∀ l ls,(linesG s0).1=l :: ls→∀ a b c,wordsL l=[a,b,c]→(unqS c).length≤6000) (he:EnvP w) :
  Calls Tryz.prog 13 #[.string (B s0)] w (ParseE (parseR s0) w):=by
 obtain ⟨n1,p1⟩:=new_at w proofZ
 by_cases hbig:65536<s0.length
 ·have hb1:(65536:Int)<(s0.length:Int):=by omega
  have HR:=Lib.hid (show parseR s0=(noProof,0,4) by unfold parseR;rw [if_pos hbig])
  generalize parseR s0=R at *
  clear hbig hU he
  go_enter Tryz.func13,Tryz.ntmps13
  simp only [B_mk]
  go_wp2_with fail
  (try simp only [Exit.inBlock,Exit.then])
  refine bodyPost_ret (res_row2 rfl (ld_proof p1) rfl rfl rfl) rfl ?_
  exact .bad HR.out rfl n1
 ·have hb1:¬ (65536:Int)<(s0.length:Int):=by omega
  have hlo:=linesG_of s0
  obtain ⟨o,ls1,hfirst,hR0,hR1,hll1⟩:∃ (o:Option (Bool × PlanV)) (ls1:List Str),(∀ (g:Nat) (w':World),RdAt w' g s0 0→EnvP w'→Calls Tryz.prog 32 #[.pointer (some ⟨g,0,none⟩)] w' (FirstE o ls1 g 0 (linesG s0).2 s0.length w'))∧(o=none→parseR s0=(noProof,1,3))∧(∀ q P,o=some (q,P)→parseR s0=finR q P (parseF (ls1.length+1) [] ls1 (!(linesG s0).2.isEmpty) 1))∧ls1.length≤69000:=by
   have hl1:=(lines_le hlo).1
   unfold parseR
   rw [if_neg (by omega)]
   cases hls:(linesG s0).1 with
   |nil =>
    rw [hls] at hlo
    exact ⟨none,[],fun g w' hr he'=>first_nil g s0 _ 0 w' hr hlo hs (by omega) he',fun _=>rfl,fun q P h=>(by cases h),by simp⟩
   |cons l ls =>
    rw [hls] at hlo hl1
    rw [List.length_cons] at hl1
    refine ⟨headR l,ls,fun g w' hr he'=>first_cons g s0 l _ ls 0 w' hr hlo hs (by omega) (hU l ls hls) he',fun h=>?_,fun q P h=>?_,by omega⟩
    ·simp only;rw [h]
    ·simp only;rw [h];rfl
  generalize parseR s0=R at *
  generalize (linesG s0).2=t at *
  have HF:=Lib.hid hfirst
  have HR0:=Lib.hid hR0
  have HR1:=Lib.hid hR1
  obtain ⟨n2,p2⟩:=new_at (w.alloc proofZ) (.cells #[.string (B s0),.int .i64 0] 74)
  have hs1:(w.alloc proofZ).heap.size=w.heap.size+1:=Array.size_push ..
  have q2:=row_keep p1 n2
  have hb2:=below_lift n1 n2
  rw [hs1] at p2
  have HE:=Lib.hid (fun w' (hb:Below w.heap.size w w')=>he.below hb)
  have HG:=Lib.hid (show w.heap.size+1≠w.heap.size∧w.heap.size≤w.heap.size+1 from ⟨by omega,by omega⟩)
  clear n1 p1 n2 hs1 hlo hfirst hR0 hR1 he hU
  go_enter Tryz.func13,Tryz.ntmps13
  simp only [B_mk]
  go_upto_region 4 with fail
  generalize (w.alloc proofZ).alloc (.cells #[.string (B s0),.int .i64 0] 74)=w2 at *
  generalize w.heap.size+1=g at *
  have HR2:=Lib.hid (show RdAt w2 g s0 0 from p2)
  have HB2:=Lib.hid hb2
  have HQ2:=Lib.hid q2
  have HF2:=Lib.hid (HF.out g w2 p2 (HE.out w2 hb2))
  clear p2 hb2 q2 HF hb1
  go_wp2_with fail
  refine HF2.out.mono ?_
  rintro e w3 ⟨q,PM,b,s1,rfl,ho,hpl,hrd,hls,hsl,hkp⟩
  obtain ⟨n4,p4⟩:=new_at w3 (.cells #[.bool q,.slice PM.A PM.rs.length PM.ca,.slice PM.C PM.us.length PM.cc,.slice none 0 0] 28)
  have hg3:=hkp.1
  have hgl:=lt_heap HR2.out
  have HB4:=Lib.hid (show Below w.heap.size w (w3.alloc (.cells #[.bool q,.slice PM.A PM.rs.length PM.ca,.slice PM.C PM.us.length PM.cc,.slice none 0 0] 28)) from (KpB.below_own HB2.out hkp HG.out.2).trans (n4.mono (Nat.le_trans HB2.out.size hg3)))
  have HR4:=Lib.hid (hrd.below n4)
  have HQ4:=Lib.hid (row_keep (hkp.row HQ2.out HG.out.1.symm) n4)
  have HP4:=Lib.hid (⟨p4,row_keep (hkp.row HQ2.out HG.out.1.symm) n4,(hpl.mono HB2.out.size).below n4,OwnR.nil _ _ _ _,fun m hm=>absurd hm (by simp)⟩:PaB (w3.alloc (.cells #[.bool q,.slice PM.A PM.rs.length PM.ca,.slice PM.C PM.us.length PM.cc,.slice none 0 0] 28)) w.heap.size w3.heap.size w.heap.size q PM none 0 [])
  have HPB:=Lib.hid (show w3.heap.size≠g∧w3.heap.size≠w.heap.size∧w.heap.size≤w3.heap.size from ⟨by omega,by have:=HB2.out.size;have:=lt_heap HQ2.out;omega,by have:=HB2.out.size;omega⟩)
  have HO:=Lib.hid ho
  have HLS:=Lib.hid hls
  clear n4 p4 hkp hpl hrd hls ho HB2 HQ2 HR2 HF2 hg3 hgl
  go_upto_region 5 with fail
  generalize w3.alloc (.cells #[.bool q,.slice PM.A PM.rs.length PM.ca,.slice PM.C PM.us.length PM.cc,.slice none 0 0] 28)=w4 at *
  generalize w3.heap.size=pb at *
  go_loopw [7,8,9] (fun ok _ _ wr=>PaR R t g pb q PM w ok wr) (fun _ _ _ wr=>szR g wr)
  case atStart =>
   refine ⟨s1,1,HR4.out,by omega,HB4.out,HQ4.out,?_⟩
   cases b with
   |false=>exact .inl ⟨rfl,HR0.out (by rw [HO.out];rfl)⟩
   |true=>exact .inr ⟨rfl,ls1,ls1.length+1,none,0,[],HLS.out,by omega,by omega,by simp,HR1.out q PM.v (by rw [HO.out];rfl),HP4.out⟩
  case round =>
   clear HR4 HB4 HQ4 HP4 HLS HO HR0 HR1
   obtain ⟨s,n,hrd,hsl2,hbel,hres,hst⟩:=hrel
   have HRD:=Lib.hid hrd
   have HBL:=Lib.hid hbel
   have HRES:=Lib.hid hres
   clear hrd hbel hres
   rcases hst with ⟨rfl,hR⟩ | ⟨rfl,ls,f,A,ca,nd,hls,hf,hnl,hndn,hR,hpa⟩
   ·have HG2:=Lib.hid hR
    clear hR
    obtain ⟨r0,r1,r2,r3⟩:=cells4 HRES.out
    have z0:=frz HRES.out 0
    have z1:=frz HRES.out 1
    have z2:=frz HRES.out 2
    have z3:=frz HRES.out 3
    obtain ⟨_,c1⟩:=RdAt.cells HRD.out
    have HSK:=Lib.hid (show ∀ w',w'.heap[g]? = wr.heap[g]? → w'.cell? ⟨g,1,none⟩=wr.cell? ⟨g,1,none⟩ from fun w' hb=>World.cell?_of_block (w:=wr) (w':=w') (a:=⟨g,1,none⟩) hb)
    have HC1:=Lib.hid c1
    have hS0:=(HSK.out wr.drew rfl).trans HC1.out
    have HST:=Lib.hid ((((((KpB.refl w.heap.size wr).store 0 (.bool false)).store 1 (.slice none 0 0)).store 2 (.slice none 0 0)).store 3 (.slice none 0 0)).drew.2 g (lt_heap HRD.out) HG.out.1)
    go_upto_region 18 with fail
    refine wp_region_held_drew (S:=fun w'=>w'.cell? ⟨g,1,none⟩=some (.int .i64 (n:Int))) (by kernel_rfl) hS0 (fun hHeld=>?_)
    refine wpAnyH_take (i:=0) (v:=?_) (by simp only [List.getElem?_toArray,List.getElem?_cons_zero];rfl) (by kernel_rfl) (by kernel_rfl) (by kernel_rfl) (by exact fun _ _ _ h=>h) (Or.inl ⟨by rfl,?_⟩) (by assumption) ?_
    rotate_left
    ·(intro w hSw;(try dsimp only at hSw);go_simp;(try with_reducible rfl))
    (try simp only [Act.put,List.setIfInBounds_toArray,List.set_cons_zero,List.set_cons_succ])
    refine wpAnyH_take (i:=1) (v:=?_) (by simp only [List.getElem?_toArray,List.getElem?_cons_succ,List.getElem?_cons_zero];rfl) (by kernel_rfl) (by kernel_rfl) (by kernel_rfl) (by exact fun _ _ _ h=>h) (Or.inl ⟨by rfl,?_⟩) (by assumption) ?_
    rotate_left
    ·(intro w hSw;(try dsimp only at hSw);go_simp;(try with_reducible rfl))
    (try simp only [Act.put,List.setIfInBounds_toArray,List.set_cons_zero,List.set_cons_succ])
    refine wpAnyH_take (i:=2) (v:=?_) (by simp only [List.getElem?_toArray,List.getElem?_cons_succ,List.getElem?_cons_zero];rfl) (by kernel_rfl) (by kernel_rfl) (by kernel_rfl) (by exact fun _ _ _ h=>h) (Or.inl ⟨by rfl,?_⟩) (by assumption) ?_
    rotate_left
    ·(intro w hSw;(try dsimp only at hSw);go_simp;(try with_reducible rfl))
    (try simp only [Act.put,List.setIfInBounds_toArray,List.set_cons_zero,List.set_cons_succ])
    refine wpAnyH_take (i:=3) (v:=?_) (by simp only [List.getElem?_toArray,List.getElem?_cons_succ,List.getElem?_cons_zero];rfl) (by kernel_rfl) (by kernel_rfl) (by kernel_rfl) (by exact fun _ _ _ h=>h) (Or.inl ⟨by rfl,?_⟩) (by assumption) ?_
    rotate_left
    ·(intro w hSw;(try dsimp only at hSw);go_simp;(try with_reducible rfl))
    (try simp only [Act.put,List.setIfInBounds_toArray,List.set_cons_zero,List.set_cons_succ])
    refine wpAnyH_take (i:=4) (v:=?_) (by simp only [List.getElem?_toArray,List.getElem?_cons_succ,List.getElem?_cons_zero];rfl) (by kernel_rfl) (by kernel_rfl) (by kernel_rfl) (by exact fun _ _ _ h=>h) (Or.inl ⟨by rfl,?_⟩) (by assumption) ?_
    rotate_left
    ·(intro w hSw;(try dsimp only at hSw);go_simp;(try with_reducible rfl))
    (try simp only [Act.put,List.setIfInBounds_toArray,List.set_cons_zero,List.set_cons_succ])
    refine wpAnyH_ready (rs:=[5]) (by kernel_rfl) (by simp) (AllReadyH.cons (by simp only [List.getElem?_toArray,List.getElem?_cons_succ,List.getElem?_cons_zero];rfl) (fun K hK=>?_) AllReadyH.nil)
    go_simp
    refine hK.out _ _ ((HSK.out _ HST.out).trans HC1.out) (fun hHeld6=>?_)
    clear hK K
    (try simp only [Act.put,List.setIfInBounds_toArray,List.set_cons_zero,List.set_cons_succ])
    refine wpAnyH_take (i:=6) (v:=?_) (by simp only [List.getElem?_toArray,List.getElem?_cons_succ,List.getElem?_cons_zero];rfl) (by kernel_rfl) (by kernel_rfl) (by kernel_rfl) (by exact fun _ _ _ h=>h) (Or.inl ⟨by rfl,?_⟩) (by assumption) ?_
    rotate_left
    ·(intro w hSw;(try dsimp only at hSw);go_simp;(try with_reducible rfl))
    (try simp only [Act.put,List.setIfInBounds_toArray,List.set_cons_zero,List.set_cons_succ])
    refine wpAnyH_take (i:=7) (v:=?_) (by simp only [List.getElem?_toArray,List.getElem?_cons_succ,List.getElem?_cons_zero];rfl) (by kernel_rfl) (by kernel_rfl) (by kernel_rfl) (by exact fun _ _ _ h=>h) (Or.inl ⟨by rfl,?_⟩) (by assumption) ?_
    rotate_left
    ·(intro w hSw;(try dsimp only at hSw);go_simp;(try with_reducible rfl))
    (try simp only [Act.put,List.setIfInBounds_toArray,List.set_cons_zero,List.set_cons_succ])
    refine wpAnyH_done (by kernel_rfl) ?_ _
    go_wp2_with fail
    (try simp only [Exit.inBlock,Exit.then])
    refine bodyPost_ret (res_row2 rfl (ld_proof (row_drew (pset4 HRES.out))) rfl rfl rfl) rfl ?_
    exact .bad HG2.out rfl (((((HBL.out).setCell (Nat.le_refl _) _).setCell (Nat.le_refl _) _).setCell (Nat.le_refl _) _).setCell (Nat.le_refl _) _).drew
   ·have HR:=Lib.hid hR
    have HPA:=Lib.hid hpa
    have HLS:=Lib.hid hls
    have HEX:=Lib.hid (HE.out wr HBL.out)
    clear hR hpa hls
    cases ls with
    |nil =>
     have HG2:=Lib.hid (show R=(noProof,n+1,3) by rw [HR.out,parseF_nil (by omega)];rfl)
     have HNX:=Lib.hid (next_nil g s t n wr HRD.out HLS.out (by omega) (by omega) HEX.out)
     go_wp2_with fail
     refine HNX.out.mono ?_
     rintro e w5 ⟨rfl,hk5,hr5⟩
     have HB5:=Lib.hid (KpB.below_own HBL.out hk5 HG.out.2)
     have HRES5:=Lib.hid (hk5.row HRES.out HG.out.1.symm)
     have HRD5:=Lib.hid hr5
     clear hk5 hr5 HNX HRD HBL HRES HPA HEX
     obtain ⟨r0,r1,r2,r3⟩:=cells4 HRES5.out
     have z0:=frz HRES5.out 0
     have z1:=frz HRES5.out 1
     have z2:=frz HRES5.out 2
     have z3:=frz HRES5.out 3
     obtain ⟨_,c1⟩:=RdAt.cells HRD5.out
     have HSK:=Lib.hid (show ∀ w',w'.heap[g]? = w5.heap[g]? → w'.cell? ⟨g,1,none⟩=w5.cell? ⟨g,1,none⟩ from fun w' hb=>World.cell?_of_block (w:=w5) (w':=w') (a:=⟨g,1,none⟩) hb)
     have HC1:=Lib.hid c1
     have hS0:=(HSK.out w5.drew rfl).trans HC1.out
     have HST:=Lib.hid ((((((KpB.refl w.heap.size w5).store 0 (.bool false)).store 1 (.slice none 0 0)).store 2 (.slice none 0 0)).store 3 (.slice none 0 0)).drew.2 g (lt_heap HRD5.out) HG.out.1)
     go_upto_region 18 with fail
     refine wp_region_held_drew (S:=fun w'=>w'.cell? ⟨g,1,none⟩=some (.int .i64 ((n+1:Nat):Int))) (by kernel_rfl) hS0 (fun hHeld=>?_)
     refine wpAnyH_take (i:=0) (v:=?_) (by simp only [List.getElem?_toArray,List.getElem?_cons_zero];rfl) (by kernel_rfl) (by kernel_rfl) (by kernel_rfl) (by exact fun _ _ _ h=>h) (Or.inl ⟨by rfl,?_⟩) (by assumption) ?_
     rotate_left
     ·(intro w hSw;(try dsimp only at hSw);go_simp;(try with_reducible rfl))
     (try simp only [Act.put,List.setIfInBounds_toArray,List.set_cons_zero,List.set_cons_succ])
     refine wpAnyH_take (i:=1) (v:=?_) (by simp only [List.getElem?_toArray,List.getElem?_cons_succ,List.getElem?_cons_zero];rfl) (by kernel_rfl) (by kernel_rfl) (by kernel_rfl) (by exact fun _ _ _ h=>h) (Or.inl ⟨by rfl,?_⟩) (by assumption) ?_
     rotate_left
     ·(intro w hSw;(try dsimp only at hSw);go_simp;(try with_reducible rfl))
     (try simp only [Act.put,List.setIfInBounds_toArray,List.set_cons_zero,List.set_cons_succ])
     refine wpAnyH_take (i:=2) (v:=?_) (by simp only [List.getElem?_toArray,List.getElem?_cons_succ,List.getElem?_cons_zero];rfl) (by kernel_rfl) (by kernel_rfl) (by kernel_rfl) (by exact fun _ _ _ h=>h) (Or.inl ⟨by rfl,?_⟩) (by assumption) ?_
     rotate_left
     ·(intro w hSw;(try dsimp only at hSw);go_simp;(try with_reducible rfl))
     (try simp only [Act.put,List.setIfInBounds_toArray,List.set_cons_zero,List.set_cons_succ])
     refine wpAnyH_take (i:=3) (v:=?_) (by simp only [List.getElem?_toArray,List.getElem?_cons_succ,List.getElem?_cons_zero];rfl) (by kernel_rfl) (by kernel_rfl) (by kernel_rfl) (by exact fun _ _ _ h=>h) (Or.inl ⟨by rfl,?_⟩) (by assumption) ?_
     rotate_left
     ·(intro w hSw;(try dsimp only at hSw);go_simp;(try with_reducible rfl))
     (try simp only [Act.put,List.setIfInBounds_toArray,List.set_cons_zero,List.set_cons_succ])
     refine wpAnyH_take (i:=4) (v:=?_) (by simp only [List.getElem?_toArray,List.getElem?_cons_succ,List.getElem?_cons_zero];rfl) (by kernel_rfl) (by kernel_rfl) (by kernel_rfl) (by exact fun _ _ _ h=>h) (Or.inl ⟨by rfl,?_⟩) (by assumption) ?_
     rotate_left
     ·(intro w hSw;(try dsimp only at hSw);go_simp;(try with_reducible rfl))
     (try simp only [Act.put,List.setIfInBounds_toArray,List.set_cons_zero,List.set_cons_succ])
     refine wpAnyH_ready (rs:=[5]) (by kernel_rfl) (by simp) (AllReadyH.cons (by simp only [List.getElem?_toArray,List.getElem?_cons_succ,List.getElem?_cons_zero];rfl) (fun K hK=>?_) AllReadyH.nil)
     go_simp
     refine hK.out _ _ ((HSK.out _ HST.out).trans HC1.out) (fun hHeld6=>?_)
     clear hK K
     (try simp only [Act.put,List.setIfInBounds_toArray,List.set_cons_zero,List.set_cons_succ])
     refine wpAnyH_take (i:=6) (v:=?_) (by simp only [List.getElem?_toArray,List.getElem?_cons_succ,List.getElem?_cons_zero];rfl) (by kernel_rfl) (by kernel_rfl) (by kernel_rfl) (by exact fun _ _ _ h=>h) (Or.inl ⟨by rfl,?_⟩) (by assumption) ?_
     rotate_left
     ·(intro w hSw;(try dsimp only at hSw);go_simp;(try with_reducible rfl))
     (try simp only [Act.put,List.setIfInBounds_toArray,List.set_cons_zero,List.set_cons_succ])
     refine wpAnyH_take (i:=7) (v:=?_) (by simp only [List.getElem?_toArray,List.getElem?_cons_succ,List.getElem?_cons_zero];rfl) (by kernel_rfl) (by kernel_rfl) (by kernel_rfl) (by exact fun _ _ _ h=>h) (Or.inl ⟨by rfl,?_⟩) (by assumption) ?_
     rotate_left
     ·(intro w hSw;(try dsimp only at hSw);go_simp;(try with_reducible rfl))
     (try simp only [Act.put,List.setIfInBounds_toArray,List.set_cons_zero,List.set_cons_succ])
     refine wpAnyH_done (by kernel_rfl) ?_ _
     go_wp2_with fail
     (try simp only [Exit.inBlock,Exit.then])
     refine bodyPost_ret (res_row2 rfl (ld_proof (row_drew (pset4 HRES5.out))) rfl rfl rfl) rfl ?_
     exact .bad HG2.out rfl (((((HB5.out).setCell (Nat.le_refl _) _).setCell (Nat.le_refl _) _).setCell (Nat.le_refl _) _).setCell (Nat.le_refl _) _).drew
    |cons l ls =>
     obtain ⟨hse,_,hl2⟩:=HLS.out.cons
     have hsl3:s.length=l.length+1+(unl ls ++ t).length:=by
      have:=congrArg List.length hse
      rw [List.length_append,List.length_cons] at this
      omega
     rw [List.length_cons] at hf hnl
     have HNX:=Lib.hid (next_cons g s l t ls n wr HRD.out HLS.out (by omega) (by omega) HEX.out)
     have HWL:=Lib.hid (wordsL_le l)
     have HL2:=Lib.hid hl2
     have HRS:=Lib.hid (unl_nil (ls:=ls) (t:=t))
     have HSZ:=Lib.hid (szR_at HRD.out)
     generalize hok:(wordsE l == 0 && decide (0<(wordsL l).length))=okb at *
     have hwe:okb=true→wordsE l=0:=fun h=>by rw [h,Bool.and_eq_true,beq_iff_eq] at hok;exact hok.1
     have HBAD:=Lib.hid (show okb=false→R=(noProof,n+1,3) from fun h=>by rw [HR.out,parseF_bad (by omega) (hok.trans h)];rfl)
     have HEND:=Lib.hid (show okb=true→wordsL l=[endW]→R=finR q PM.v (if ls=[]∧(!t.isEmpty)=false then (nd.map (·.n),0,0) else ([],n+2,3)) from fun h hw=>by
      rw [HR.out,(end_words (hwe h)).1 hw,parseF_end (by omega)])
     have HSTEP:=Lib.hid (show okb=true→wordsL l≠[endW]→R=finR q PM.v (if nd.length=1024∧begW (wordsL l)=true then ([],n+1,4) else contF f (nd.map (·.n)) (!t.isEmpty) (nodeW_ (wordsL l) ls (n+1))) from fun h hw=>by
      rw [HR.out,parseF_step (by omega) (fun e=>hw ((end_words (hwe h)).2 e)),List.length_map,begins_w (hwe h),nodeR_w (hwe h)])
     clear hok hse hl2 hwe HR
     generalize unl ls ++ t=rs at *
     generalize wordsL l=wl at *
     go_wp2_with fail
     refine HNX.out.mono ?_
     rintro e w5 ⟨WA,wc,rfl,hown,hk5,hr5⟩
     have HB5:=Lib.hid (KpB.below_own HBL.out hk5 HG.out.2)
     have HRES5:=Lib.hid (hk5.row HRES.out HG.out.1.symm)
     have HRD5:=Lib.hid hr5
     have HPA5:=Lib.hid (HPA.out.kpB hk5 HRD.out HPB.out.1 HG.out.1.symm)
     have HOW5:=Lib.hid hown
     clear hk5 hr5 hown HNX HRD HBL HRES HPA HEX HLS
     cases okb with
     |false =>
      have HG2:=Lib.hid (HBAD.out rfl)
      clear HBAD HEND HSTEP
      obtain ⟨r0,r1,r2,r3⟩:=cells4 HRES5.out
      have z0:=frz HRES5.out 0
      have z1:=frz HRES5.out 1
      have z2:=frz HRES5.out 2
      have z3:=frz HRES5.out 3
      obtain ⟨_,c1⟩:=RdAt.cells HRD5.out
      have HSK:=Lib.hid (show ∀ w',w'.heap[g]? = w5.heap[g]? → w'.cell? ⟨g,1,none⟩=w5.cell? ⟨g,1,none⟩ from fun w' hb=>World.cell?_of_block (w:=w5) (w':=w') (a:=⟨g,1,none⟩) hb)
      have HC1:=Lib.hid c1
      have hS0:=(HSK.out w5.drew rfl).trans HC1.out
      have HST:=Lib.hid ((((((KpB.refl w.heap.size w5).store 0 (.bool false)).store 1 (.slice none 0 0)).store 2 (.slice none 0 0)).store 3 (.slice none 0 0)).drew.2 g (lt_heap HRD5.out) HG.out.1)
      go_upto_region 18 with fail
      refine wp_region_held_drew (S:=fun w'=>w'.cell? ⟨g,1,none⟩=some (.int .i64 ((n+1:Nat):Int))) (by kernel_rfl) hS0 (fun hHeld=>?_)
      refine wpAnyH_take (i:=0) (v:=?_) (by simp only [List.getElem?_toArray,List.getElem?_cons_zero];rfl) (by kernel_rfl) (by kernel_rfl) (by kernel_rfl) (by exact fun _ _ _ h=>h) (Or.inl ⟨by rfl,?_⟩) (by assumption) ?_
      rotate_left
      ·(intro w hSw;(try dsimp only at hSw);go_simp;(try with_reducible rfl))
      (try simp only [Act.put,List.setIfInBounds_toArray,List.set_cons_zero,List.set_cons_succ])
      refine wpAnyH_take (i:=1) (v:=?_) (by simp only [List.getElem?_toArray,List.getElem?_cons_succ,List.getElem?_cons_zero];rfl) (by kernel_rfl) (by kernel_rfl) (by kernel_rfl) (by exact fun _ _ _ h=>h) (Or.inl ⟨by rfl,?_⟩) (by assumption) ?_
      rotate_left
      ·(intro w hSw;(try dsimp only at hSw);go_simp;(try with_reducible rfl))
      (try simp only [Act.put,List.setIfInBounds_toArray,List.set_cons_zero,List.set_cons_succ])
      refine wpAnyH_take (i:=2) (v:=?_) (by simp only [List.getElem?_toArray,List.getElem?_cons_succ,List.getElem?_cons_zero];rfl) (by kernel_rfl) (by kernel_rfl) (by kernel_rfl) (by exact fun _ _ _ h=>h) (Or.inl ⟨by rfl,?_⟩) (by assumption) ?_
      rotate_left
      ·(intro w hSw;(try dsimp only at hSw);go_simp;(try with_reducible rfl))
      (try simp only [Act.put,List.setIfInBounds_toArray,List.set_cons_zero,List.set_cons_succ])
      refine wpAnyH_take (i:=3) (v:=?_) (by simp only [List.getElem?_toArray,List.getElem?_cons_succ,List.getElem?_cons_zero];rfl) (by kernel_rfl) (by kernel_rfl) (by kernel_rfl) (by exact fun _ _ _ h=>h) (Or.inl ⟨by rfl,?_⟩) (by assumption) ?_
      rotate_left
      ·(intro w hSw;(try dsimp only at hSw);go_simp;(try with_reducible rfl))
      (try simp only [Act.put,List.setIfInBounds_toArray,List.set_cons_zero,List.set_cons_succ])
      refine wpAnyH_take (i:=4) (v:=?_) (by simp only [List.getElem?_toArray,List.getElem?_cons_succ,List.getElem?_cons_zero];rfl) (by kernel_rfl) (by kernel_rfl) (by kernel_rfl) (by exact fun _ _ _ h=>h) (Or.inl ⟨by rfl,?_⟩) (by assumption) ?_
      rotate_left
      ·(intro w hSw;(try dsimp only at hSw);go_simp;(try with_reducible rfl))
      (try simp only [Act.put,List.setIfInBounds_toArray,List.set_cons_zero,List.set_cons_succ])
      refine wpAnyH_ready (rs:=[5]) (by kernel_rfl) (by simp) (AllReadyH.cons (by simp only [List.getElem?_toArray,List.getElem?_cons_succ,List.getElem?_cons_zero];rfl) (fun K hK=>?_) AllReadyH.nil)
      go_simp
      refine hK.out _ _ ((HSK.out _ HST.out).trans HC1.out) (fun hHeld6=>?_)
      clear hK K
      (try simp only [Act.put,List.setIfInBounds_toArray,List.set_cons_zero,List.set_cons_succ])
      refine wpAnyH_take (i:=6) (v:=?_) (by simp only [List.getElem?_toArray,List.getElem?_cons_succ,List.getElem?_cons_zero];rfl) (by kernel_rfl) (by kernel_rfl) (by kernel_rfl) (by exact fun _ _ _ h=>h) (Or.inl ⟨by rfl,?_⟩) (by assumption) ?_
      rotate_left
      ·(intro w hSw;(try dsimp only at hSw);go_simp;(try with_reducible rfl))
      (try simp only [Act.put,List.setIfInBounds_toArray,List.set_cons_zero,List.set_cons_succ])
      refine wpAnyH_take (i:=7) (v:=?_) (by simp only [List.getElem?_toArray,List.getElem?_cons_succ,List.getElem?_cons_zero];rfl) (by kernel_rfl) (by kernel_rfl) (by kernel_rfl) (by exact fun _ _ _ h=>h) (Or.inl ⟨by rfl,?_⟩) (by assumption) ?_
      rotate_left
      ·(intro w hSw;(try dsimp only at hSw);go_simp;(try with_reducible rfl))
      (try simp only [Act.put,List.setIfInBounds_toArray,List.set_cons_zero,List.set_cons_succ])
      refine wpAnyH_done (by kernel_rfl) ?_ _
      go_wp2_with fail
      (try simp only [Exit.inBlock,Exit.then])
      refine bodyPost_ret (res_row2 rfl (ld_proof (row_drew (pset4 HRES5.out))) rfl rfl rfl) rfl ?_
      exact .bad HG2.out rfl (((((HB5.out).setCell (Nat.le_refl _) _).setCell (Nat.le_refl _) _).setCell (Nat.le_refl _) _).setCell (Nat.le_refl _) _).drew
     |true =>
      by_cases hwl:wl=[endW]
      ·have HGE:=Lib.hid (HEND.out rfl hwl)
       clear HBAD HEND HSTEP
       subst hwl
       obtain ⟨q4,rfl,hq4,hlt4,hcap4,x0⟩:=ownHs HOW5.out
       obtain ⟨c0,c1⟩:=RdAt.cells HRD5.out
       by_cases hrn:rs=[]
       ·have g2:(rs == [])=true:=by rw [hrn];rfl
        have HG2:=Lib.hid (show R=(⟨q,PM.v,nd.map (·.n)⟩,0,0) by
         have h:=HRS.out.1 hrn
         rw [HGE.out,if_pos ⟨h.1,by rw [h.2];rfl⟩];rfl)
        clear hrn HGE
        obtain ⟨a0,a1,a2,a3⟩:=cells4 HPA5.out.row
        obtain ⟨r0,r1,r2,r3⟩:=cells4 HPA5.out.res
        have z0:=frz HPA5.out.res 0
        have z1:=frz HPA5.out.res 1
        have z2:=frz HPA5.out.res 2
        have z3:=frz HPA5.out.res 3
        go_wp2_with fail
        (try simp only [Exit.inBlock,Exit.then])
        refine bodyPost_ret (res_row2 rfl (ld_proof (pset4 HPA5.out.res)) rfl rfl rfl) rfl ?_
        have k1:=((((KpB.refl w.heap.size w5).store 0 (.bool q)).store 1 (.slice PM.A PM.rs.length PM.ca)).store 2 (.slice PM.C PM.us.length PM.cc)).store 3 (.slice A nd.length ca)
        have ho:=HPA5.out.own.keptB k1 HPA5.out.res (by decide)
        refine ⟨⟨q,PM,A,ca,nd⟩,by rw [HG2.out];rfl,by rw [HG2.out];rfl,⟨(HPA5.out.plan.keptB k1 HPA5.out.res (by decide) (by decide) (by decide) (by decide)).at_,ho.cells,fun m hm=>((HPA5.out.each m hm).keptB k1 HPA5.out.res (by decide) (by decide)).at_,ho.cap⟩,KpB.below_own HB5.out k1 (Nat.le_refl _)⟩
       ·have g2:(rs == [])=false:=by simpa using hrn
        have HG2:=Lib.hid (show R=(noProof,n+2,3) by
         rw [HGE.out,if_neg]
         ·rfl
         ·rintro ⟨h1,h2⟩
          refine hrn (HRS.out.2 ⟨h1,?_⟩)
          cases t with
          |nil=>rfl
          |cons=>cases h2)
        clear hrn HGE c0 c1
        obtain ⟨r0,r1,r2,r3⟩:=cells4 HRES5.out
        have z0:=frz HRES5.out 0
        have z1:=frz HRES5.out 1
        have z2:=frz HRES5.out 2
        have z3:=frz HRES5.out 3
        obtain ⟨_,c1⟩:=RdAt.cells HRD5.out
        have HSK:=Lib.hid (show ∀ w',w'.heap[g]? = w5.heap[g]? → w'.cell? ⟨g,1,none⟩=w5.cell? ⟨g,1,none⟩ from fun w' hb=>World.cell?_of_block (w:=w5) (w':=w') (a:=⟨g,1,none⟩) hb)
        have HC1:=Lib.hid c1
        have hS0:=(HSK.out w5.drew rfl).trans HC1.out
        have HST:=Lib.hid ((((((KpB.refl w.heap.size w5).store 0 (.bool false)).store 1 (.slice none 0 0)).store 2 (.slice none 0 0)).store 3 (.slice none 0 0)).drew.2 g (lt_heap HRD5.out) HG.out.1)
        go_upto_region 11 with fail
        refine wp_region_held_drew (S:=fun w'=>w'.cell? ⟨g,1,none⟩=some (.int .i64 ((n+1:Nat):Int))) (by kernel_rfl) hS0 (fun hHeld=>?_)
        refine wpAnyH_take (i:=0) (v:=?_) (by simp only [List.getElem?_toArray,List.getElem?_cons_zero];rfl) (by kernel_rfl) (by kernel_rfl) (by kernel_rfl) (by exact fun _ _ _ h=>h) (Or.inl ⟨by rfl,?_⟩) (by assumption) ?_
        rotate_left
        ·(intro w hSw;(try dsimp only at hSw);go_simp;(try with_reducible rfl))
        (try simp only [Act.put,List.setIfInBounds_toArray,List.set_cons_zero,List.set_cons_succ])
        refine wpAnyH_take (i:=1) (v:=?_) (by simp only [List.getElem?_toArray,List.getElem?_cons_succ,List.getElem?_cons_zero];rfl) (by kernel_rfl) (by kernel_rfl) (by kernel_rfl) (by exact fun _ _ _ h=>h) (Or.inl ⟨by rfl,?_⟩) (by assumption) ?_
        rotate_left
        ·(intro w hSw;(try dsimp only at hSw);go_simp;(try with_reducible rfl))
        (try simp only [Act.put,List.setIfInBounds_toArray,List.set_cons_zero,List.set_cons_succ])
        refine wpAnyH_take (i:=2) (v:=?_) (by simp only [List.getElem?_toArray,List.getElem?_cons_succ,List.getElem?_cons_zero];rfl) (by kernel_rfl) (by kernel_rfl) (by kernel_rfl) (by exact fun _ _ _ h=>h) (Or.inl ⟨by rfl,?_⟩) (by assumption) ?_
        rotate_left
        ·(intro w hSw;(try dsimp only at hSw);go_simp;(try with_reducible rfl))
        (try simp only [Act.put,List.setIfInBounds_toArray,List.set_cons_zero,List.set_cons_succ])
        refine wpAnyH_take (i:=3) (v:=?_) (by simp only [List.getElem?_toArray,List.getElem?_cons_succ,List.getElem?_cons_zero];rfl) (by kernel_rfl) (by kernel_rfl) (by kernel_rfl) (by exact fun _ _ _ h=>h) (Or.inl ⟨by rfl,?_⟩) (by assumption) ?_
        rotate_left
        ·(intro w hSw;(try dsimp only at hSw);go_simp;(try with_reducible rfl))
        (try simp only [Act.put,List.setIfInBounds_toArray,List.set_cons_zero,List.set_cons_succ])
        refine wpAnyH_take (i:=4) (v:=?_) (by simp only [List.getElem?_toArray,List.getElem?_cons_succ,List.getElem?_cons_zero];rfl) (by kernel_rfl) (by kernel_rfl) (by kernel_rfl) (by exact fun _ _ _ h=>h) (Or.inl ⟨by rfl,?_⟩) (by assumption) ?_
        rotate_left
        ·(intro w hSw;(try dsimp only at hSw);go_simp;(try with_reducible rfl))
        (try simp only [Act.put,List.setIfInBounds_toArray,List.set_cons_zero,List.set_cons_succ])
        refine wpAnyH_take (i:=5) (v:=?_) (by simp only [List.getElem?_toArray,List.getElem?_cons_succ,List.getElem?_cons_zero];rfl) (by kernel_rfl) (by kernel_rfl) (by kernel_rfl) (by exact fun _ _ _ h=>h) (Or.inl ⟨by rfl,?_⟩) (by assumption) ?_
        rotate_left
        ·(intro w hSw;(try dsimp only at hSw);go_simp;(try with_reducible rfl))
        (try simp only [Act.put,List.setIfInBounds_toArray,List.set_cons_zero,List.set_cons_succ])
        refine wpAnyH_ready (rs:=[6]) (by kernel_rfl) (by simp) (AllReadyH.cons (by simp only [List.getElem?_toArray,List.getElem?_cons_succ,List.getElem?_cons_zero];rfl) (fun K hK=>?_) AllReadyH.nil)
        go_simp
        refine hK.out _ _ ((HSK.out _ HST.out).trans HC1.out) (fun hHeld6=>?_)
        clear hK K
        (try simp only [Act.put,List.setIfInBounds_toArray,List.set_cons_zero,List.set_cons_succ])
        refine wpAnyH_take (i:=7) (v:=?_) (by simp only [List.getElem?_toArray,List.getElem?_cons_succ,List.getElem?_cons_zero];rfl) (by kernel_rfl) (by kernel_rfl) (by kernel_rfl) (by exact fun _ _ _ h=>h) (Or.inl ⟨by rfl,?_⟩) (by assumption) ?_
        rotate_left
        ·(intro w hSw;(try dsimp only at hSw);go_simp;(try with_reducible rfl))
        (try simp only [Act.put,List.setIfInBounds_toArray,List.set_cons_zero,List.set_cons_succ])
        refine wpAnyH_take (i:=8) (v:=?_) (by simp only [List.getElem?_toArray,List.getElem?_cons_succ,List.getElem?_cons_zero];rfl) (by kernel_rfl) (by kernel_rfl) (by kernel_rfl) (by exact fun _ _ _ h=>h) (Or.inl ⟨by rfl,?_⟩) (by assumption) ?_
        rotate_left
        ·(intro w hSw;(try dsimp only at hSw);go_simp;(try with_reducible rfl))
        (try simp only [Act.put,List.setIfInBounds_toArray,List.set_cons_zero,List.set_cons_succ])
        refine wpAnyH_done (by kernel_rfl) ?_ _
        go_wp2_with fail
        (try simp only [Exit.inBlock,Exit.then])
        refine bodyPost_ret (res_row2 rfl (ld_proof (row_drew (pset4 HRES5.out))) rfl rfl rfl) rfl ?_
        refine ParseE.bad (n:=n+2) (k:=IntKind.i64.wrap ((n:Int)+1+1)) HG2.out (wrap_two (by omega)).symm ?_
        exact (((((HB5.out).setCell (Nat.le_refl _) _).setCell (Nat.le_refl _) _).setCell (Nat.le_refl _) _).setCell (Nat.le_refl _) _).drew
      ·have HST1:=Lib.hid (HSTEP.out rfl hwl)
       have HWN:=Lib.hid hwl
       clear HBAD HEND HSTEP hwl
       generalize hbw:begW wl=bw at *
       have HBW:=Lib.hid hbw
       clear hbw
       obtain ⟨NW,hNW⟩:∃ x,x=nodeW_ wl ls (n+1):=⟨_,rfl⟩
       rw [← hNW] at HST1
       have HNW:=Lib.hid hNW
       have HCNT:=Lib.hid (fun x ls1 n1 (h:NW=(some x,ls1,n1))=>nodeW_cnt (hNW.symm.trans h))
       clear hNW
       have hwl1:((wl.length:Int) == 1)=false∨(((wl.length:Int) == 1)=true∧∃ x ws',wl=x :: ws'∧(x == [101,110,100])=false):=by
        by_cases h:wl.length=1
        ·right
         refine ⟨by rw [h];rfl,?_⟩
         match wl,h with
         |[x],_=>exact ⟨x,[],rfl,by have:=HWN.out;simpa using this⟩
        ·left
         rw [beq_eq_false_iff_ne];omega
       rcases hwl1 with e9 | ⟨e9,x,ws',hwx,e10⟩
       ·by_cases hN:nd.length=1024
        ·have eN:((nd.length:Int) == 1024)=true:=by rw [hN];rfl
         have HBG:=Lib.hid (begins_any wl WA wc w5 HOW5.out.cells HOW5.out.cap (fun x hx=>by have:=HWL.out.2 x hx;omega) (HE.out w5 HB5.out).2)
         rw [HBW.out] at HBG
         have HN:=Lib.hid hN
         obtain ⟨a0,a1,a2,a3⟩:=cells4 HPA5.out.row
         clear hN
         go_wp2_with fail
         refine HBG.out.mono ?_
         rintro e w6 ⟨rfl,hb6⟩
         have HB6:=Lib.hid (below_lift HB5.out hb6)
         have HRD6:=Lib.hid (HRD5.out.below hb6)
         have HPA6:=Lib.hid (HPA5.out.below hb6)
         have HOW6:=Lib.hid (HOW5.out.below hb6)
         have HRES6:=Lib.hid (row_keep HRES5.out hb6)
         clear hb6 HBG HB5 HRD5 HPA5 HOW5 HRES5 a0 a1 a2 a3
         cases bw with
         |true =>
          have HG2:=Lib.hid (show R=(noProof,n+1,4) by rw [HST1.out,if_pos ⟨HN.out,rfl⟩];rfl)
          obtain ⟨r0,r1,r2,r3⟩:=cells4 HRES6.out
          have z0:=frz HRES6.out 0
          have z1:=frz HRES6.out 1
          have z2:=frz HRES6.out 2
          have z3:=frz HRES6.out 3
          obtain ⟨_,c1⟩:=RdAt.cells HRD6.out
          have HSK:=Lib.hid (show ∀ w',w'.heap[g]? = w6.heap[g]? → w'.cell? ⟨g,1,none⟩=w6.cell? ⟨g,1,none⟩ from fun w' hb=>World.cell?_of_block (w:=w6) (w':=w') (a:=⟨g,1,none⟩) hb)
          have HC1:=Lib.hid c1
          have hS0:=(HSK.out w6.drew rfl).trans HC1.out
          have HST:=Lib.hid ((((((KpB.refl w.heap.size w6).store 0 (.bool false)).store 1 (.slice none 0 0)).store 2 (.slice none 0 0)).store 3 (.slice none 0 0)).drew.2 g (lt_heap HRD6.out) HG.out.1)
          go_upto_region 14 with fail
          refine wp_region_held_drew (S:=fun w'=>w'.cell? ⟨g,1,none⟩=some (.int .i64 ((n+1:Nat):Int))) (by kernel_rfl) hS0 (fun hHeld=>?_)
          refine wpAnyH_take (i:=0) (v:=?_) (by simp only [List.getElem?_toArray,List.getElem?_cons_zero];rfl) (by kernel_rfl) (by kernel_rfl) (by kernel_rfl) (by exact fun _ _ _ h=>h) (Or.inl ⟨by rfl,?_⟩) (by assumption) ?_
          rotate_left
          ·(intro w hSw;(try dsimp only at hSw);go_simp;(try with_reducible rfl))
          (try simp only [Act.put,List.setIfInBounds_toArray,List.set_cons_zero,List.set_cons_succ])
          refine wpAnyH_take (i:=1) (v:=?_) (by simp only [List.getElem?_toArray,List.getElem?_cons_succ,List.getElem?_cons_zero];rfl) (by kernel_rfl) (by kernel_rfl) (by kernel_rfl) (by exact fun _ _ _ h=>h) (Or.inl ⟨by rfl,?_⟩) (by assumption) ?_
          rotate_left
          ·(intro w hSw;(try dsimp only at hSw);go_simp;(try with_reducible rfl))
          (try simp only [Act.put,List.setIfInBounds_toArray,List.set_cons_zero,List.set_cons_succ])
          refine wpAnyH_take (i:=2) (v:=?_) (by simp only [List.getElem?_toArray,List.getElem?_cons_succ,List.getElem?_cons_zero];rfl) (by kernel_rfl) (by kernel_rfl) (by kernel_rfl) (by exact fun _ _ _ h=>h) (Or.inl ⟨by rfl,?_⟩) (by assumption) ?_
          rotate_left
          ·(intro w hSw;(try dsimp only at hSw);go_simp;(try with_reducible rfl))
          (try simp only [Act.put,List.setIfInBounds_toArray,List.set_cons_zero,List.set_cons_succ])
          refine wpAnyH_take (i:=3) (v:=?_) (by simp only [List.getElem?_toArray,List.getElem?_cons_succ,List.getElem?_cons_zero];rfl) (by kernel_rfl) (by kernel_rfl) (by kernel_rfl) (by exact fun _ _ _ h=>h) (Or.inl ⟨by rfl,?_⟩) (by assumption) ?_
          rotate_left
          ·(intro w hSw;(try dsimp only at hSw);go_simp;(try with_reducible rfl))
          (try simp only [Act.put,List.setIfInBounds_toArray,List.set_cons_zero,List.set_cons_succ])
          refine wpAnyH_take (i:=4) (v:=?_) (by simp only [List.getElem?_toArray,List.getElem?_cons_succ,List.getElem?_cons_zero];rfl) (by kernel_rfl) (by kernel_rfl) (by kernel_rfl) (by exact fun _ _ _ h=>h) (Or.inl ⟨by rfl,?_⟩) (by assumption) ?_
          rotate_left
          ·(intro w hSw;(try dsimp only at hSw);go_simp;(try with_reducible rfl))
          (try simp only [Act.put,List.setIfInBounds_toArray,List.set_cons_zero,List.set_cons_succ])
          refine wpAnyH_ready (rs:=[5]) (by kernel_rfl) (by simp) (AllReadyH.cons (by simp only [List.getElem?_toArray,List.getElem?_cons_succ,List.getElem?_cons_zero];rfl) (fun K hK=>?_) AllReadyH.nil)
          go_simp
          refine hK.out _ _ ((HSK.out _ HST.out).trans HC1.out) (fun hHeld6=>?_)
          clear hK K
          (try simp only [Act.put,List.setIfInBounds_toArray,List.set_cons_zero,List.set_cons_succ])
          refine wpAnyH_take (i:=6) (v:=?_) (by simp only [List.getElem?_toArray,List.getElem?_cons_succ,List.getElem?_cons_zero];rfl) (by kernel_rfl) (by kernel_rfl) (by kernel_rfl) (by exact fun _ _ _ h=>h) (Or.inl ⟨by rfl,?_⟩) (by assumption) ?_
          rotate_left
          ·(intro w hSw;(try dsimp only at hSw);go_simp;(try with_reducible rfl))
          (try simp only [Act.put,List.setIfInBounds_toArray,List.set_cons_zero,List.set_cons_succ])
          refine wpAnyH_take (i:=7) (v:=?_) (by simp only [List.getElem?_toArray,List.getElem?_cons_succ,List.getElem?_cons_zero];rfl) (by kernel_rfl) (by kernel_rfl) (by kernel_rfl) (by exact fun _ _ _ h=>h) (Or.inl ⟨by rfl,?_⟩) (by assumption) ?_
          rotate_left
          ·(intro w hSw;(try dsimp only at hSw);go_simp;(try with_reducible rfl))
          (try simp only [Act.put,List.setIfInBounds_toArray,List.set_cons_zero,List.set_cons_succ])
          refine wpAnyH_done (by kernel_rfl) ?_ _
          go_wp2_with fail
          (try simp only [Exit.inBlock,Exit.then])
          refine bodyPost_ret (res_row2 rfl (ld_proof (row_drew (pset4 HRES6.out))) rfl rfl rfl) rfl ?_
          exact .bad HG2.out rfl (((((HB6.out).setCell (Nat.le_refl _) _).setCell (Nat.le_refl _) _).setCell (Nat.le_refl _) _).setCell (Nat.le_refl _) _).drew
         |false =>
          have HNE:=Lib.hid (show ¬ (nd.length=1024∧false=true) from fun h=>by cases h.2)
          have HND:=Lib.hid (show R=finR q PM.v (contF f (nd.map (·.n)) (!t.isEmpty) NW) by rw [HST1.out,if_neg HNE.out])
          obtain ⟨n7,p7⟩:=new_at w6 nodeZ
          have HAN:=Lib.hid (HPA6.out.own.old)
          have HNB:=Lib.hid (show w6.heap.size≠g∧w6.heap.size≠w.heap.size∧w6.heap.size≠pb∧w.heap.size≤w6.heap.size from ⟨by have:=lt_heap HRD6.out;omega,by have:=lt_heap HRES6.out;omega,by have:=lt_heap HPA6.out.row;omega,HB6.out.size⟩)
          have HB7:=Lib.hid (below_lift HB6.out n7)
          have HRD7:=Lib.hid (HRD6.out.below n7)
          have HPA7:=Lib.hid (HPA6.out.below n7)
          have HOW7:=Lib.hid (HOW6.out.below n7)
          have HP7:=Lib.hid p7
          clear n7 p7 HST1 HNE HB6 HRD6 HPA6 HOW6 HRES6
          go_upto_region 16 with fail
          generalize w6.alloc nodeZ=w7 at *
          generalize w6.heap.size=nb at *
          have HNODE:=Lib.hid (node_any g rs t ls (n+1) wl WA wc w7 HRD7.out HL2.out (by omega) (by omega) (by omega) HOW7.out.cells HOW7.out.cap (fun x hx=>by have:=HWL.out.2 x hx;omega) (HE.out w7 HB7.out))
          rw [← HNW.out] at HNODE
          obtain ⟨o1,ls1,n1⟩:=NW
          go_wp2_with fail
          refine HNODE.out.mono ?_
          rintro e w8 ⟨m,b,s',rfl,ho,hno,hrd,hls,hsl',hkp⟩
          have HB8:=Lib.hid (KpB.below_own HB7.out hkp HG.out.2)
          have HRD8:=Lib.hid (show RdAt w8 g s' n1 from hrd)
          have HPA8:=Lib.hid (HPA7.out.kpB hkp HRD7.out HPB.out.1 HG.out.1.symm)
          have HP8:=Lib.hid (hkp.row HP7.out HNB.out.1)
          have HNO8:=Lib.hid (fun hb=>(hno hb).mono HB7.out.size)
          have HO:=Lib.hid (show o1=(if b then some m.n else none) from ho)
          have HLS8:=Lib.hid (show LinesOf s' ls1 t from hls)
          clear ho hno hrd hls hkp HNODE HB7 HRD7 HPA7 HOW7 HP7
          obtain ⟨mA,mca,mC,mcc,⟨leaf,kind,cuts,dual,ck,ca',cb,cn,yes,no⟩⟩:=m
          obtain ⟨r0,r1,r2,r3,r4,r5,r6,r7,r8,r9⟩:=cells10 HP8.out
          have z:=frz HP8.out
          have z0:=z 0
          have z1:=z 1
          have z2:=z 2
          have z3:=z 3
          have z4:=z 4
          have z5:=z 5
          have z6:=z 6
          have z7:=z 7
          have z8:=z 8
          have z9:=z 9
          clear z
          have p9:=pset10 (a:=.bool leaf) (b:=.int .i64 kind) (c:=.slice mA cuts.length mca) (d:=.slice mC dual.length mcc) (e:=.int .i64 ck) (f:=.int .i64 ca') (i:=.int .i64 cb) (j:=.int .i64 cn) (k:=.int .i64 yes) (l:=.int .i64 no) HP8.out
          have k9:=(((((((((((KpB.refl nb w8).store 0 (.bool leaf)).store 1 (.int .i64 kind)).store 2 (.slice mA cuts.length mca)).store 3 (.slice mC dual.length mcc)).store 4 (.int .i64 ck)).store 5 (.int .i64 ca')).store 6 (.int .i64 cb)).store 7 (.int .i64 cn)).store 8 (.int .i64 yes)).store 9 (.int .i64 no))
          go_upto_region 17 with fail
          generalize ((((((((((w8.setCell ⟨nb,0,none⟩ (.bool leaf)).setCell ⟨nb,1,none⟩ (.int .i64 kind)).setCell ⟨nb,2,none⟩ (.slice mA cuts.length mca)).setCell ⟨nb,3,none⟩ (.slice mC dual.length mcc)).setCell ⟨nb,4,none⟩ (.int .i64 ck)).setCell ⟨nb,5,none⟩ (.int .i64 ca')).setCell ⟨nb,6,none⟩ (.int .i64 cb)).setCell ⟨nb,7,none⟩ (.int .i64 cn)).setCell ⟨nb,8,none⟩ (.int .i64 yes)).setCell ⟨nb,9,none⟩ (.int .i64 no))=w9 at *
          have HRD9:=Lib.hid (k9.row HRD8.out HNB.out.1.symm)
          have HPA9:=Lib.hid (HPA8.out.kpN k9 HP8.out HAN.out HNB.out.2.2.1.symm HNB.out.2.1.symm)
          have HB9:=Lib.hid (KpB.below_own HB8.out k9 HNB.out.2.2.2)
          have HNO9:=Lib.hid (fun hb=>(HNO8.out hb).keptB k9 HP8.out (by decide) (by decide))
          clear r0 r1 r2 r3 r4 r5 r6 r7 r8 r9 z0 z1 z2 z3 z4 z5 z6 z7 z8 z9 HRD8 HPA8 HB8 HNO8 HP8 k9
          obtain ⟨y0,y1,y2,y3,y4,y5,y6,y7,y8,y9⟩:=cells10 p9
          clear p9
          obtain ⟨c0,c1,c2,c3⟩:=cells4 HPA9.out.row
          have hsz:=HB9.out.size
          have HON:=Lib.hid (show ∀ u ∈ (#[.bool leaf,.int .i64 kind,.slice mA cuts.length mca,.slice mC dual.length mcc,.int .i64 ck,.int .i64 ca',.int .i64 cb,.int .i64 cn,.int .i64 yes,.int .i64 no]:Array Value).toList,u.oneCell'=true from by intro u hu;simp at hu;rcases hu with rfl | rfl | rfl | rfl | rfl | rfl | rfl | rfl | rfl | rfl <;> rfl)
          go_wp2_with (at_builtin;refine wp_appk el_pnode rfl _ _ rfl w.heap.size _ _ _ (nd.flatMap NodeM.cells) w9 #[.bool leaf,.int .i64 kind,.slice mA cuts.length mca,.slice mC dual.length mcc,.int .i64 ck,.int .i64 ca',.int .i64 cb,.int .i64 cn,.int .i64 yes,.int .i64 no] rfl HPA9.out.own rfl rfl HON.out (by unfold maxLen;omega) (by omega) hsz ?_;intro A' c' w10 hown10 hb10 hk10;have p10:=hk10.row HPA9.out.row (HPA9.out.own.far HPA9.out.row (by decide));have f3:=frz p10 3;obtain ⟨e0,e1,e2,e3⟩:=cells4 p10)
          have hkb:=(KpB.refl pb w10).store 3 (.slice A' (nd.length+1) c')
          have hle:(nd ++ [(⟨mA,mca,mC,mcc,⟨leaf,kind,cuts,dual,ck,ca',cb,cn,yes,no⟩⟩:NodeM)]).length=nd.length+1:=by simp
          have hxs:nd.flatMap NodeM.cells ++ (#[.bool leaf,.int .i64 kind,.slice mA cuts.length mca,.slice mC dual.length mcc,.int .i64 ck,.int .i64 ca',.int .i64 cb,.int .i64 cn,.int .i64 yes,.int .i64 no]:Array Value).toList=(nd ++ [(⟨mA,mca,mC,mcc,⟨leaf,kind,cuts,dual,ck,ca',cb,cn,yes,no⟩⟩:NodeM)]).flatMap NodeM.cells:=flat_snoc NodeM.cells nd ⟨mA,mca,mC,mcc,⟨leaf,kind,cuts,dual,ck,ca',cb,cn,yes,no⟩⟩
          rw [hxs] at hown10
          have hrd11:RdAt (w10.setCell ⟨pb,3,none⟩ (.slice A' (nd.length+1) c')) g s' n1:=(Below.heap_setCell w10 ⟨pb,3,none⟩ (.slice A' (nd.length+1) c') _ HPB.out.1.symm).trans (hk10.row HRD9.out (HPA9.out.own.far HRD9.out (by decide)))
          have hb11:=(HB9.out.trans hb10).setCell (p:=⟨pb,3,none⟩) HPB.out.2.2 (.slice A' (nd.length+1) c')
          have hres11:=(Below.heap_setCell w10 ⟨pb,3,none⟩ (.slice A' (nd.length+1) c') _ HPB.out.2.1.symm).trans (hk10.row HPA9.out.res (HPA9.out.own.far HPA9.out.res (by decide)))
          have hms:szR g (w10.setCell ⟨pb,3,none⟩ (.slice A' (nd.length+1) c'))<szR g wr:=by rw [szR_at hrd11,HSZ.out];omega
          have hrel11:PaR R t g pb q PM w (.bool b) (w10.setCell ⟨pb,3,none⟩ (.slice A' (nd.length+1) c')):=by
           refine ⟨s',n1,hrd11,by omega,hb11,hres11,?_⟩
           cases b with
           |false =>
            have ho:o1=none:=HO.out
            exact .inl ⟨rfl,by rw [HND.out,ho];rfl⟩
           |true =>
            have ho:o1=some (⟨leaf,kind,cuts,dual,ck,ca',cb,cn,yes,no⟩:NodeV):=HO.out
            obtain ⟨q1,q2⟩:=HCNT.out _ ls1 n1 (by rw [ho])
            refine .inr ⟨rfl,ls1,f - 1,A',c',nd ++ [⟨mA,mca,mC,mcc,⟨leaf,kind,cuts,dual,ck,ca',cb,cn,yes,no⟩⟩],HLS8.out,by omega,by omega,by rw [hle];omega,?_,?_⟩
            ·rw [HND.out,ho,List.map_append];rfl
            ·refine ⟨by rw [hle];exact heap_put p10,hres11,(HPA9.out.plan.keptA hk10 HPA9.out.own (by decide) (by decide) (by decide) (by decide)).keptB hkb p10 (by decide) (by decide) (by decide) (by decide),by rw [hle];exact hown10.keptB hkb p10 (by decide),fun m hm=>?_⟩
             rcases List.mem_append.1 hm with h | h
             ·exact ((HPA9.out.each m h).keptA hk10 HPA9.out.own (by decide) (by decide)).keptB hkb p10 (by decide) (by decide)
             ·rw [List.mem_singleton.1 h];exact ((HNO9.out rfl).keptA hk10 HPA9.out.own (by decide) (by decide)).keptB hkb p10 (by decide) (by decide)
          all_goals first
           |exact ⟨hrel11,hms⟩
           |(go_roundw
             case rel=>exact hrel11
             case measure=>exact hms)
        ·have eN:((nd.length:Int) == 1024)=false:=by rw [beq_eq_false_iff_ne];omega
         have HNE:=Lib.hid (show ¬ (nd.length=1024∧bw=true) from fun h=>hN h.1)
         obtain ⟨a0,a1,a2,a3⟩:=cells4 HPA5.out.row
         clear hN
         have HND:=Lib.hid (show R=finR q PM.v (contF f (nd.map (·.n)) (!t.isEmpty) NW) by rw [HST1.out,if_neg HNE.out])
         obtain ⟨n7,p7⟩:=new_at w5 nodeZ
         have HAN:=Lib.hid (HPA5.out.own.old)
         have HNB:=Lib.hid (show w5.heap.size≠g∧w5.heap.size≠w.heap.size∧w5.heap.size≠pb∧w.heap.size≤w5.heap.size from ⟨by have:=lt_heap HRD5.out;omega,by have:=lt_heap HRES5.out;omega,by have:=lt_heap HPA5.out.row;omega,HB5.out.size⟩)
         have HB7:=Lib.hid (below_lift HB5.out n7)
         have HRD7:=Lib.hid (HRD5.out.below n7)
         have HPA7:=Lib.hid (HPA5.out.below n7)
         have HOW7:=Lib.hid (HOW5.out.below n7)
         have HP7:=Lib.hid p7
         clear n7 p7 HST1 HNE HB5 HRD5 HPA5 HOW5 HRES5
         go_upto_region 16 with fail
         generalize w5.alloc nodeZ=w7 at *
         generalize w5.heap.size=nb at *
         have HNODE:=Lib.hid (node_any g rs t ls (n+1) wl WA wc w7 HRD7.out HL2.out (by omega) (by omega) (by omega) HOW7.out.cells HOW7.out.cap (fun x hx=>by have:=HWL.out.2 x hx;omega) (HE.out w7 HB7.out))
         rw [← HNW.out] at HNODE
         obtain ⟨o1,ls1,n1⟩:=NW
         go_wp2_with fail
         refine HNODE.out.mono ?_
         rintro e w8 ⟨m,b,s',rfl,ho,hno,hrd,hls,hsl',hkp⟩
         have HB8:=Lib.hid (KpB.below_own HB7.out hkp HG.out.2)
         have HRD8:=Lib.hid (show RdAt w8 g s' n1 from hrd)
         have HPA8:=Lib.hid (HPA7.out.kpB hkp HRD7.out HPB.out.1 HG.out.1.symm)
         have HP8:=Lib.hid (hkp.row HP7.out HNB.out.1)
         have HNO8:=Lib.hid (fun hb=>(hno hb).mono HB7.out.size)
         have HO:=Lib.hid (show o1=(if b then some m.n else none) from ho)
         have HLS8:=Lib.hid (show LinesOf s' ls1 t from hls)
         clear ho hno hrd hls hkp HNODE HB7 HRD7 HPA7 HOW7 HP7
         obtain ⟨mA,mca,mC,mcc,⟨leaf,kind,cuts,dual,ck,ca',cb,cn,yes,no⟩⟩:=m
         obtain ⟨r0,r1,r2,r3,r4,r5,r6,r7,r8,r9⟩:=cells10 HP8.out
         have z:=frz HP8.out
         have z0:=z 0
         have z1:=z 1
         have z2:=z 2
         have z3:=z 3
         have z4:=z 4
         have z5:=z 5
         have z6:=z 6
         have z7:=z 7
         have z8:=z 8
         have z9:=z 9
         clear z
         have p9:=pset10 (a:=.bool leaf) (b:=.int .i64 kind) (c:=.slice mA cuts.length mca) (d:=.slice mC dual.length mcc) (e:=.int .i64 ck) (f:=.int .i64 ca') (i:=.int .i64 cb) (j:=.int .i64 cn) (k:=.int .i64 yes) (l:=.int .i64 no) HP8.out
         have k9:=(((((((((((KpB.refl nb w8).store 0 (.bool leaf)).store 1 (.int .i64 kind)).store 2 (.slice mA cuts.length mca)).store 3 (.slice mC dual.length mcc)).store 4 (.int .i64 ck)).store 5 (.int .i64 ca')).store 6 (.int .i64 cb)).store 7 (.int .i64 cn)).store 8 (.int .i64 yes)).store 9 (.int .i64 no))
         go_upto_region 17 with fail
         generalize ((((((((((w8.setCell ⟨nb,0,none⟩ (.bool leaf)).setCell ⟨nb,1,none⟩ (.int .i64 kind)).setCell ⟨nb,2,none⟩ (.slice mA cuts.length mca)).setCell ⟨nb,3,none⟩ (.slice mC dual.length mcc)).setCell ⟨nb,4,none⟩ (.int .i64 ck)).setCell ⟨nb,5,none⟩ (.int .i64 ca')).setCell ⟨nb,6,none⟩ (.int .i64 cb)).setCell ⟨nb,7,none⟩ (.int .i64 cn)).setCell ⟨nb,8,none⟩ (.int .i64 yes)).setCell ⟨nb,9,none⟩ (.int .i64 no))=w9 at *
         have HRD9:=Lib.hid (k9.row HRD8.out HNB.out.1.symm)
         have HPA9:=Lib.hid (HPA8.out.kpN k9 HP8.out HAN.out HNB.out.2.2.1.symm HNB.out.2.1.symm)
         have HB9:=Lib.hid (KpB.below_own HB8.out k9 HNB.out.2.2.2)
         have HNO9:=Lib.hid (fun hb=>(HNO8.out hb).keptB k9 HP8.out (by decide) (by decide))
         clear r0 r1 r2 r3 r4 r5 r6 r7 r8 r9 z0 z1 z2 z3 z4 z5 z6 z7 z8 z9 HRD8 HPA8 HB8 HNO8 HP8 k9
         obtain ⟨y0,y1,y2,y3,y4,y5,y6,y7,y8,y9⟩:=cells10 p9
         clear p9
         obtain ⟨c0,c1,c2,c3⟩:=cells4 HPA9.out.row
         have hsz:=HB9.out.size
         have HON:=Lib.hid (show ∀ u ∈ (#[.bool leaf,.int .i64 kind,.slice mA cuts.length mca,.slice mC dual.length mcc,.int .i64 ck,.int .i64 ca',.int .i64 cb,.int .i64 cn,.int .i64 yes,.int .i64 no]:Array Value).toList,u.oneCell'=true from by intro u hu;simp at hu;rcases hu with rfl | rfl | rfl | rfl | rfl | rfl | rfl | rfl | rfl | rfl <;> rfl)
         go_wp2_with (at_builtin;refine wp_appk el_pnode rfl _ _ rfl w.heap.size _ _ _ (nd.flatMap NodeM.cells) w9 #[.bool leaf,.int .i64 kind,.slice mA cuts.length mca,.slice mC dual.length mcc,.int .i64 ck,.int .i64 ca',.int .i64 cb,.int .i64 cn,.int .i64 yes,.int .i64 no] rfl HPA9.out.own rfl rfl HON.out (by unfold maxLen;omega) (by omega) hsz ?_;intro A' c' w10 hown10 hb10 hk10;have p10:=hk10.row HPA9.out.row (HPA9.out.own.far HPA9.out.row (by decide));have f3:=frz p10 3;obtain ⟨e0,e1,e2,e3⟩:=cells4 p10)
         have hkb:=(KpB.refl pb w10).store 3 (.slice A' (nd.length+1) c')
         have hle:(nd ++ [(⟨mA,mca,mC,mcc,⟨leaf,kind,cuts,dual,ck,ca',cb,cn,yes,no⟩⟩:NodeM)]).length=nd.length+1:=by simp
         have hxs:nd.flatMap NodeM.cells ++ (#[.bool leaf,.int .i64 kind,.slice mA cuts.length mca,.slice mC dual.length mcc,.int .i64 ck,.int .i64 ca',.int .i64 cb,.int .i64 cn,.int .i64 yes,.int .i64 no]:Array Value).toList=(nd ++ [(⟨mA,mca,mC,mcc,⟨leaf,kind,cuts,dual,ck,ca',cb,cn,yes,no⟩⟩:NodeM)]).flatMap NodeM.cells:=flat_snoc NodeM.cells nd ⟨mA,mca,mC,mcc,⟨leaf,kind,cuts,dual,ck,ca',cb,cn,yes,no⟩⟩
         rw [hxs] at hown10
         have hrd11:RdAt (w10.setCell ⟨pb,3,none⟩ (.slice A' (nd.length+1) c')) g s' n1:=(Below.heap_setCell w10 ⟨pb,3,none⟩ (.slice A' (nd.length+1) c') _ HPB.out.1.symm).trans (hk10.row HRD9.out (HPA9.out.own.far HRD9.out (by decide)))
         have hb11:=(HB9.out.trans hb10).setCell (p:=⟨pb,3,none⟩) HPB.out.2.2 (.slice A' (nd.length+1) c')
         have hres11:=(Below.heap_setCell w10 ⟨pb,3,none⟩ (.slice A' (nd.length+1) c') _ HPB.out.2.1.symm).trans (hk10.row HPA9.out.res (HPA9.out.own.far HPA9.out.res (by decide)))
         have hms:szR g (w10.setCell ⟨pb,3,none⟩ (.slice A' (nd.length+1) c'))<szR g wr:=by rw [szR_at hrd11,HSZ.out];omega
         have hrel11:PaR R t g pb q PM w (.bool b) (w10.setCell ⟨pb,3,none⟩ (.slice A' (nd.length+1) c')):=by
          refine ⟨s',n1,hrd11,by omega,hb11,hres11,?_⟩
          cases b with
          |false =>
           have ho:o1=none:=HO.out
           exact .inl ⟨rfl,by rw [HND.out,ho];rfl⟩
          |true =>
           have ho:o1=some (⟨leaf,kind,cuts,dual,ck,ca',cb,cn,yes,no⟩:NodeV):=HO.out
           obtain ⟨q1,q2⟩:=HCNT.out _ ls1 n1 (by rw [ho])
           refine .inr ⟨rfl,ls1,f - 1,A',c',nd ++ [⟨mA,mca,mC,mcc,⟨leaf,kind,cuts,dual,ck,ca',cb,cn,yes,no⟩⟩],HLS8.out,by omega,by omega,by rw [hle];omega,?_,?_⟩
           ·rw [HND.out,ho,List.map_append];rfl
           ·refine ⟨by rw [hle];exact heap_put p10,hres11,(HPA9.out.plan.keptA hk10 HPA9.out.own (by decide) (by decide) (by decide) (by decide)).keptB hkb p10 (by decide) (by decide) (by decide) (by decide),by rw [hle];exact hown10.keptB hkb p10 (by decide),fun m hm=>?_⟩
            rcases List.mem_append.1 hm with h | h
            ·exact ((HPA9.out.each m h).keptA hk10 HPA9.out.own (by decide) (by decide)).keptB hkb p10 (by decide) (by decide)
            ·rw [List.mem_singleton.1 h];exact ((HNO9.out rfl).keptA hk10 HPA9.out.own (by decide) (by decide)).keptB hkb p10 (by decide) (by decide)
         all_goals first
          |exact ⟨hrel11,hms⟩
          |(go_roundw
            case rel=>exact hrel11
            case measure=>exact hms)
       ·have hx0:∃ q4,WA=some ⟨q4,0,none⟩∧q4<w5.heap.size∧wl.length≤wc∧w5.cell? ⟨q4,0,none⟩=some (.string (B x)):=by
         have:=HOW5.out
         rw [hwx] at this
         obtain ⟨q4,a1,a2,a3,a4,a5⟩:=ownHs this
         exact ⟨q4,a1,a3,by rw [hwx];exact a4,a5⟩
        have hwp:0<wl.length:=by rw [hwx];simp
        obtain ⟨q4,rfl,hlt4,hcap4,x0⟩:=hx0
        clear hwx
        by_cases hN:nd.length=1024
        ·have eN:((nd.length:Int) == 1024)=true:=by rw [hN];rfl
         have HBG:=Lib.hid (begins_any wl (some ⟨q4,0,none⟩) wc w5 HOW5.out.cells HOW5.out.cap (fun x hx=>by have:=HWL.out.2 x hx;omega) (HE.out w5 HB5.out).2)
         rw [HBW.out] at HBG
         have HN:=Lib.hid hN
         obtain ⟨a0,a1,a2,a3⟩:=cells4 HPA5.out.row
         clear hN
         go_wp2_with fail
         refine HBG.out.mono ?_
         rintro e w6 ⟨rfl,hb6⟩
         have HB6:=Lib.hid (below_lift HB5.out hb6)
         have HRD6:=Lib.hid (HRD5.out.below hb6)
         have HPA6:=Lib.hid (HPA5.out.below hb6)
         have HOW6:=Lib.hid (HOW5.out.below hb6)
         have HRES6:=Lib.hid (row_keep HRES5.out hb6)
         clear hb6 HBG HB5 HRD5 HPA5 HOW5 HRES5 a0 a1 a2 a3
         cases bw with
         |true =>
          have HG2:=Lib.hid (show R=(noProof,n+1,4) by rw [HST1.out,if_pos ⟨HN.out,rfl⟩];rfl)
          obtain ⟨r0,r1,r2,r3⟩:=cells4 HRES6.out
          have z0:=frz HRES6.out 0
          have z1:=frz HRES6.out 1
          have z2:=frz HRES6.out 2
          have z3:=frz HRES6.out 3
          obtain ⟨_,c1⟩:=RdAt.cells HRD6.out
          have HSK:=Lib.hid (show ∀ w',w'.heap[g]? = w6.heap[g]? → w'.cell? ⟨g,1,none⟩=w6.cell? ⟨g,1,none⟩ from fun w' hb=>World.cell?_of_block (w:=w6) (w':=w') (a:=⟨g,1,none⟩) hb)
          have HC1:=Lib.hid c1
          have hS0:=(HSK.out w6.drew rfl).trans HC1.out
          have HST:=Lib.hid ((((((KpB.refl w.heap.size w6).store 0 (.bool false)).store 1 (.slice none 0 0)).store 2 (.slice none 0 0)).store 3 (.slice none 0 0)).drew.2 g (lt_heap HRD6.out) HG.out.1)
          go_upto_region 14 with fail
          refine wp_region_held_drew (S:=fun w'=>w'.cell? ⟨g,1,none⟩=some (.int .i64 ((n+1:Nat):Int))) (by kernel_rfl) hS0 (fun hHeld=>?_)
          refine wpAnyH_take (i:=0) (v:=?_) (by simp only [List.getElem?_toArray,List.getElem?_cons_zero];rfl) (by kernel_rfl) (by kernel_rfl) (by kernel_rfl) (by exact fun _ _ _ h=>h) (Or.inl ⟨by rfl,?_⟩) (by assumption) ?_
          rotate_left
          ·(intro w hSw;(try dsimp only at hSw);go_simp;(try with_reducible rfl))
          (try simp only [Act.put,List.setIfInBounds_toArray,List.set_cons_zero,List.set_cons_succ])
          refine wpAnyH_take (i:=1) (v:=?_) (by simp only [List.getElem?_toArray,List.getElem?_cons_succ,List.getElem?_cons_zero];rfl) (by kernel_rfl) (by kernel_rfl) (by kernel_rfl) (by exact fun _ _ _ h=>h) (Or.inl ⟨by rfl,?_⟩) (by assumption) ?_
          rotate_left
          ·(intro w hSw;(try dsimp only at hSw);go_simp;(try with_reducible rfl))
          (try simp only [Act.put,List.setIfInBounds_toArray,List.set_cons_zero,List.set_cons_succ])
          refine wpAnyH_take (i:=2) (v:=?_) (by simp only [List.getElem?_toArray,List.getElem?_cons_succ,List.getElem?_cons_zero];rfl) (by kernel_rfl) (by kernel_rfl) (by kernel_rfl) (by exact fun _ _ _ h=>h) (Or.inl ⟨by rfl,?_⟩) (by assumption) ?_
          rotate_left
          ·(intro w hSw;(try dsimp only at hSw);go_simp;(try with_reducible rfl))
          (try simp only [Act.put,List.setIfInBounds_toArray,List.set_cons_zero,List.set_cons_succ])
          refine wpAnyH_take (i:=3) (v:=?_) (by simp only [List.getElem?_toArray,List.getElem?_cons_succ,List.getElem?_cons_zero];rfl) (by kernel_rfl) (by kernel_rfl) (by kernel_rfl) (by exact fun _ _ _ h=>h) (Or.inl ⟨by rfl,?_⟩) (by assumption) ?_
          rotate_left
          ·(intro w hSw;(try dsimp only at hSw);go_simp;(try with_reducible rfl))
          (try simp only [Act.put,List.setIfInBounds_toArray,List.set_cons_zero,List.set_cons_succ])
          refine wpAnyH_take (i:=4) (v:=?_) (by simp only [List.getElem?_toArray,List.getElem?_cons_succ,List.getElem?_cons_zero];rfl) (by kernel_rfl) (by kernel_rfl) (by kernel_rfl) (by exact fun _ _ _ h=>h) (Or.inl ⟨by rfl,?_⟩) (by assumption) ?_
          rotate_left
          ·(intro w hSw;(try dsimp only at hSw);go_simp;(try with_reducible rfl))
          (try simp only [Act.put,List.setIfInBounds_toArray,List.set_cons_zero,List.set_cons_succ])
          refine wpAnyH_ready (rs:=[5]) (by kernel_rfl) (by simp) (AllReadyH.cons (by simp only [List.getElem?_toArray,List.getElem?_cons_succ,List.getElem?_cons_zero];rfl) (fun K hK=>?_) AllReadyH.nil)
          go_simp
          refine hK.out _ _ ((HSK.out _ HST.out).trans HC1.out) (fun hHeld6=>?_)
          clear hK K
          (try simp only [Act.put,List.setIfInBounds_toArray,List.set_cons_zero,List.set_cons_succ])
          refine wpAnyH_take (i:=6) (v:=?_) (by simp only [List.getElem?_toArray,List.getElem?_cons_succ,List.getElem?_cons_zero];rfl) (by kernel_rfl) (by kernel_rfl) (by kernel_rfl) (by exact fun _ _ _ h=>h) (Or.inl ⟨by rfl,?_⟩) (by assumption) ?_
          rotate_left
          ·(intro w hSw;(try dsimp only at hSw);go_simp;(try with_reducible rfl))
          (try simp only [Act.put,List.setIfInBounds_toArray,List.set_cons_zero,List.set_cons_succ])
          refine wpAnyH_take (i:=7) (v:=?_) (by simp only [List.getElem?_toArray,List.getElem?_cons_succ,List.getElem?_cons_zero];rfl) (by kernel_rfl) (by kernel_rfl) (by kernel_rfl) (by exact fun _ _ _ h=>h) (Or.inl ⟨by rfl,?_⟩) (by assumption) ?_
          rotate_left
          ·(intro w hSw;(try dsimp only at hSw);go_simp;(try with_reducible rfl))
          (try simp only [Act.put,List.setIfInBounds_toArray,List.set_cons_zero,List.set_cons_succ])
          refine wpAnyH_done (by kernel_rfl) ?_ _
          go_wp2_with fail
          (try simp only [Exit.inBlock,Exit.then])
          refine bodyPost_ret (res_row2 rfl (ld_proof (row_drew (pset4 HRES6.out))) rfl rfl rfl) rfl ?_
          exact .bad HG2.out rfl (((((HB6.out).setCell (Nat.le_refl _) _).setCell (Nat.le_refl _) _).setCell (Nat.le_refl _) _).setCell (Nat.le_refl _) _).drew
         |false =>
          have HNE:=Lib.hid (show ¬ (nd.length=1024∧false=true) from fun h=>by cases h.2)
          have HND:=Lib.hid (show R=finR q PM.v (contF f (nd.map (·.n)) (!t.isEmpty) NW) by rw [HST1.out,if_neg HNE.out])
          obtain ⟨n7,p7⟩:=new_at w6 nodeZ
          have HAN:=Lib.hid (HPA6.out.own.old)
          have HNB:=Lib.hid (show w6.heap.size≠g∧w6.heap.size≠w.heap.size∧w6.heap.size≠pb∧w.heap.size≤w6.heap.size from ⟨by have:=lt_heap HRD6.out;omega,by have:=lt_heap HRES6.out;omega,by have:=lt_heap HPA6.out.row;omega,HB6.out.size⟩)
          have HB7:=Lib.hid (below_lift HB6.out n7)
          have HRD7:=Lib.hid (HRD6.out.below n7)
          have HPA7:=Lib.hid (HPA6.out.below n7)
          have HOW7:=Lib.hid (HOW6.out.below n7)
          have HP7:=Lib.hid p7
          clear n7 p7 HST1 HNE HB6 HRD6 HPA6 HOW6 HRES6
          go_upto_region 16 with fail
          generalize w6.alloc nodeZ=w7 at *
          generalize w6.heap.size=nb at *
          have HNODE:=Lib.hid (node_any g rs t ls (n+1) wl (some ⟨q4,0,none⟩) wc w7 HRD7.out HL2.out (by omega) (by omega) (by omega) HOW7.out.cells HOW7.out.cap (fun x hx=>by have:=HWL.out.2 x hx;omega) (HE.out w7 HB7.out))
          rw [← HNW.out] at HNODE
          obtain ⟨o1,ls1,n1⟩:=NW
          go_wp2_with fail
          refine HNODE.out.mono ?_
          rintro e w8 ⟨m,b,s',rfl,ho,hno,hrd,hls,hsl',hkp⟩
          have HB8:=Lib.hid (KpB.below_own HB7.out hkp HG.out.2)
          have HRD8:=Lib.hid (show RdAt w8 g s' n1 from hrd)
          have HPA8:=Lib.hid (HPA7.out.kpB hkp HRD7.out HPB.out.1 HG.out.1.symm)
          have HP8:=Lib.hid (hkp.row HP7.out HNB.out.1)
          have HNO8:=Lib.hid (fun hb=>(hno hb).mono HB7.out.size)
          have HO:=Lib.hid (show o1=(if b then some m.n else none) from ho)
          have HLS8:=Lib.hid (show LinesOf s' ls1 t from hls)
          clear ho hno hrd hls hkp HNODE HB7 HRD7 HPA7 HOW7 HP7
          obtain ⟨mA,mca,mC,mcc,⟨leaf,kind,cuts,dual,ck,ca',cb,cn,yes,no⟩⟩:=m
          obtain ⟨r0,r1,r2,r3,r4,r5,r6,r7,r8,r9⟩:=cells10 HP8.out
          have z:=frz HP8.out
          have z0:=z 0
          have z1:=z 1
          have z2:=z 2
          have z3:=z 3
          have z4:=z 4
          have z5:=z 5
          have z6:=z 6
          have z7:=z 7
          have z8:=z 8
          have z9:=z 9
          clear z
          have p9:=pset10 (a:=.bool leaf) (b:=.int .i64 kind) (c:=.slice mA cuts.length mca) (d:=.slice mC dual.length mcc) (e:=.int .i64 ck) (f:=.int .i64 ca') (i:=.int .i64 cb) (j:=.int .i64 cn) (k:=.int .i64 yes) (l:=.int .i64 no) HP8.out
          have k9:=(((((((((((KpB.refl nb w8).store 0 (.bool leaf)).store 1 (.int .i64 kind)).store 2 (.slice mA cuts.length mca)).store 3 (.slice mC dual.length mcc)).store 4 (.int .i64 ck)).store 5 (.int .i64 ca')).store 6 (.int .i64 cb)).store 7 (.int .i64 cn)).store 8 (.int .i64 yes)).store 9 (.int .i64 no))
          go_upto_region 17 with fail
          generalize ((((((((((w8.setCell ⟨nb,0,none⟩ (.bool leaf)).setCell ⟨nb,1,none⟩ (.int .i64 kind)).setCell ⟨nb,2,none⟩ (.slice mA cuts.length mca)).setCell ⟨nb,3,none⟩ (.slice mC dual.length mcc)).setCell ⟨nb,4,none⟩ (.int .i64 ck)).setCell ⟨nb,5,none⟩ (.int .i64 ca')).setCell ⟨nb,6,none⟩ (.int .i64 cb)).setCell ⟨nb,7,none⟩ (.int .i64 cn)).setCell ⟨nb,8,none⟩ (.int .i64 yes)).setCell ⟨nb,9,none⟩ (.int .i64 no))=w9 at *
          have HRD9:=Lib.hid (k9.row HRD8.out HNB.out.1.symm)
          have HPA9:=Lib.hid (HPA8.out.kpN k9 HP8.out HAN.out HNB.out.2.2.1.symm HNB.out.2.1.symm)
          have HB9:=Lib.hid (KpB.below_own HB8.out k9 HNB.out.2.2.2)
          have HNO9:=Lib.hid (fun hb=>(HNO8.out hb).keptB k9 HP8.out (by decide) (by decide))
          clear r0 r1 r2 r3 r4 r5 r6 r7 r8 r9 z0 z1 z2 z3 z4 z5 z6 z7 z8 z9 HRD8 HPA8 HB8 HNO8 HP8 k9
          obtain ⟨y0,y1,y2,y3,y4,y5,y6,y7,y8,y9⟩:=cells10 p9
          clear p9
          obtain ⟨c0,c1,c2,c3⟩:=cells4 HPA9.out.row
          have hsz:=HB9.out.size
          have HON:=Lib.hid (show ∀ u ∈ (#[.bool leaf,.int .i64 kind,.slice mA cuts.length mca,.slice mC dual.length mcc,.int .i64 ck,.int .i64 ca',.int .i64 cb,.int .i64 cn,.int .i64 yes,.int .i64 no]:Array Value).toList,u.oneCell'=true from by intro u hu;simp at hu;rcases hu with rfl | rfl | rfl | rfl | rfl | rfl | rfl | rfl | rfl | rfl <;> rfl)
          go_wp2_with (at_builtin;refine wp_appk el_pnode rfl _ _ rfl w.heap.size _ _ _ (nd.flatMap NodeM.cells) w9 #[.bool leaf,.int .i64 kind,.slice mA cuts.length mca,.slice mC dual.length mcc,.int .i64 ck,.int .i64 ca',.int .i64 cb,.int .i64 cn,.int .i64 yes,.int .i64 no] rfl HPA9.out.own rfl rfl HON.out (by unfold maxLen;omega) (by omega) hsz ?_;intro A' c' w10 hown10 hb10 hk10;have p10:=hk10.row HPA9.out.row (HPA9.out.own.far HPA9.out.row (by decide));have f3:=frz p10 3;obtain ⟨e0,e1,e2,e3⟩:=cells4 p10)
          have hkb:=(KpB.refl pb w10).store 3 (.slice A' (nd.length+1) c')
          have hle:(nd ++ [(⟨mA,mca,mC,mcc,⟨leaf,kind,cuts,dual,ck,ca',cb,cn,yes,no⟩⟩:NodeM)]).length=nd.length+1:=by simp
          have hxs:nd.flatMap NodeM.cells ++ (#[.bool leaf,.int .i64 kind,.slice mA cuts.length mca,.slice mC dual.length mcc,.int .i64 ck,.int .i64 ca',.int .i64 cb,.int .i64 cn,.int .i64 yes,.int .i64 no]:Array Value).toList=(nd ++ [(⟨mA,mca,mC,mcc,⟨leaf,kind,cuts,dual,ck,ca',cb,cn,yes,no⟩⟩:NodeM)]).flatMap NodeM.cells:=flat_snoc NodeM.cells nd ⟨mA,mca,mC,mcc,⟨leaf,kind,cuts,dual,ck,ca',cb,cn,yes,no⟩⟩
          rw [hxs] at hown10
          have hrd11:RdAt (w10.setCell ⟨pb,3,none⟩ (.slice A' (nd.length+1) c')) g s' n1:=(Below.heap_setCell w10 ⟨pb,3,none⟩ (.slice A' (nd.length+1) c') _ HPB.out.1.symm).trans (hk10.row HRD9.out (HPA9.out.own.far HRD9.out (by decide)))
          have hb11:=(HB9.out.trans hb10).setCell (p:=⟨pb,3,none⟩) HPB.out.2.2 (.slice A' (nd.length+1) c')
          have hres11:=(Below.heap_setCell w10 ⟨pb,3,none⟩ (.slice A' (nd.length+1) c') _ HPB.out.2.1.symm).trans (hk10.row HPA9.out.res (HPA9.out.own.far HPA9.out.res (by decide)))
          have hms:szR g (w10.setCell ⟨pb,3,none⟩ (.slice A' (nd.length+1) c'))<szR g wr:=by rw [szR_at hrd11,HSZ.out];omega
          have hrel11:PaR R t g pb q PM w (.bool b) (w10.setCell ⟨pb,3,none⟩ (.slice A' (nd.length+1) c')):=by
           refine ⟨s',n1,hrd11,by omega,hb11,hres11,?_⟩
           cases b with
           |false =>
            have ho:o1=none:=HO.out
            exact .inl ⟨rfl,by rw [HND.out,ho];rfl⟩
           |true =>
            have ho:o1=some (⟨leaf,kind,cuts,dual,ck,ca',cb,cn,yes,no⟩:NodeV):=HO.out
            obtain ⟨q1,q2⟩:=HCNT.out _ ls1 n1 (by rw [ho])
            refine .inr ⟨rfl,ls1,f - 1,A',c',nd ++ [⟨mA,mca,mC,mcc,⟨leaf,kind,cuts,dual,ck,ca',cb,cn,yes,no⟩⟩],HLS8.out,by omega,by omega,by rw [hle];omega,?_,?_⟩
            ·rw [HND.out,ho,List.map_append];rfl
            ·refine ⟨by rw [hle];exact heap_put p10,hres11,(HPA9.out.plan.keptA hk10 HPA9.out.own (by decide) (by decide) (by decide) (by decide)).keptB hkb p10 (by decide) (by decide) (by decide) (by decide),by rw [hle];exact hown10.keptB hkb p10 (by decide),fun m hm=>?_⟩
             rcases List.mem_append.1 hm with h | h
             ·exact ((HPA9.out.each m h).keptA hk10 HPA9.out.own (by decide) (by decide)).keptB hkb p10 (by decide) (by decide)
             ·rw [List.mem_singleton.1 h];exact ((HNO9.out rfl).keptA hk10 HPA9.out.own (by decide) (by decide)).keptB hkb p10 (by decide) (by decide)
          all_goals first
           |exact ⟨hrel11,hms⟩
           |(go_roundw
             case rel=>exact hrel11
             case measure=>exact hms)
        ·have eN:((nd.length:Int) == 1024)=false:=by rw [beq_eq_false_iff_ne];omega
         have HNE:=Lib.hid (show ¬ (nd.length=1024∧bw=true) from fun h=>hN h.1)
         obtain ⟨a0,a1,a2,a3⟩:=cells4 HPA5.out.row
         clear hN
         have HND:=Lib.hid (show R=finR q PM.v (contF f (nd.map (·.n)) (!t.isEmpty) NW) by rw [HST1.out,if_neg HNE.out])
         obtain ⟨n7,p7⟩:=new_at w5 nodeZ
         have HAN:=Lib.hid (HPA5.out.own.old)
         have HNB:=Lib.hid (show w5.heap.size≠g∧w5.heap.size≠w.heap.size∧w5.heap.size≠pb∧w.heap.size≤w5.heap.size from ⟨by have:=lt_heap HRD5.out;omega,by have:=lt_heap HRES5.out;omega,by have:=lt_heap HPA5.out.row;omega,HB5.out.size⟩)
         have HB7:=Lib.hid (below_lift HB5.out n7)
         have HRD7:=Lib.hid (HRD5.out.below n7)
         have HPA7:=Lib.hid (HPA5.out.below n7)
         have HOW7:=Lib.hid (HOW5.out.below n7)
         have HP7:=Lib.hid p7
         clear n7 p7 HST1 HNE HB5 HRD5 HPA5 HOW5 HRES5
         go_upto_region 16 with fail
         generalize w5.alloc nodeZ=w7 at *
         generalize w5.heap.size=nb at *
         have HNODE:=Lib.hid (node_any g rs t ls (n+1) wl (some ⟨q4,0,none⟩) wc w7 HRD7.out HL2.out (by omega) (by omega) (by omega) HOW7.out.cells HOW7.out.cap (fun x hx=>by have:=HWL.out.2 x hx;omega) (HE.out w7 HB7.out))
         rw [← HNW.out] at HNODE
         obtain ⟨o1,ls1,n1⟩:=NW
         go_wp2_with fail
         refine HNODE.out.mono ?_
         rintro e w8 ⟨m,b,s',rfl,ho,hno,hrd,hls,hsl',hkp⟩
         have HB8:=Lib.hid (KpB.below_own HB7.out hkp HG.out.2)
         have HRD8:=Lib.hid (show RdAt w8 g s' n1 from hrd)
         have HPA8:=Lib.hid (HPA7.out.kpB hkp HRD7.out HPB.out.1 HG.out.1.symm)
         have HP8:=Lib.hid (hkp.row HP7.out HNB.out.1)
         have HNO8:=Lib.hid (fun hb=>(hno hb).mono HB7.out.size)
         have HO:=Lib.hid (show o1=(if b then some m.n else none) from ho)
         have HLS8:=Lib.hid (show LinesOf s' ls1 t from hls)
         clear ho hno hrd hls hkp HNODE HB7 HRD7 HPA7 HOW7 HP7
         obtain ⟨mA,mca,mC,mcc,⟨leaf,kind,cuts,dual,ck,ca',cb,cn,yes,no⟩⟩:=m
         obtain ⟨r0,r1,r2,r3,r4,r5,r6,r7,r8,r9⟩:=cells10 HP8.out
         have z:=frz HP8.out
         have z0:=z 0
         have z1:=z 1
         have z2:=z 2
         have z3:=z 3
         have z4:=z 4
         have z5:=z 5
         have z6:=z 6
         have z7:=z 7
         have z8:=z 8
         have z9:=z 9
         clear z
         have p9:=pset10 (a:=.bool leaf) (b:=.int .i64 kind) (c:=.slice mA cuts.length mca) (d:=.slice mC dual.length mcc) (e:=.int .i64 ck) (f:=.int .i64 ca') (i:=.int .i64 cb) (j:=.int .i64 cn) (k:=.int .i64 yes) (l:=.int .i64 no) HP8.out
         have k9:=(((((((((((KpB.refl nb w8).store 0 (.bool leaf)).store 1 (.int .i64 kind)).store 2 (.slice mA cuts.length mca)).store 3 (.slice mC dual.length mcc)).store 4 (.int .i64 ck)).store 5 (.int .i64 ca')).store 6 (.int .i64 cb)).store 7 (.int .i64 cn)).store 8 (.int .i64 yes)).store 9 (.int .i64 no))
         go_upto_region 17 with fail
         generalize ((((((((((w8.setCell ⟨nb,0,none⟩ (.bool leaf)).setCell ⟨nb,1,none⟩ (.int .i64 kind)).setCell ⟨nb,2,none⟩ (.slice mA cuts.length mca)).setCell ⟨nb,3,none⟩ (.slice mC dual.length mcc)).setCell ⟨nb,4,none⟩ (.int .i64 ck)).setCell ⟨nb,5,none⟩ (.int .i64 ca')).setCell ⟨nb,6,none⟩ (.int .i64 cb)).setCell ⟨nb,7,none⟩ (.int .i64 cn)).setCell ⟨nb,8,none⟩ (.int .i64 yes)).setCell ⟨nb,9,none⟩ (.int .i64 no))=w9 at *
         have HRD9:=Lib.hid (k9.row HRD8.out HNB.out.1.symm)
         have HPA9:=Lib.hid (HPA8.out.kpN k9 HP8.out HAN.out HNB.out.2.2.1.symm HNB.out.2.1.symm)
         have HB9:=Lib.hid (KpB.below_own HB8.out k9 HNB.out.2.2.2)
         have HNO9:=Lib.hid (fun hb=>(HNO8.out hb).keptB k9 HP8.out (by decide) (by decide))
         clear r0 r1 r2 r3 r4 r5 r6 r7 r8 r9 z0 z1 z2 z3 z4 z5 z6 z7 z8 z9 HRD8 HPA8 HB8 HNO8 HP8 k9
         obtain ⟨y0,y1,y2,y3,y4,y5,y6,y7,y8,y9⟩:=cells10 p9
         clear p9
         obtain ⟨c0,c1,c2,c3⟩:=cells4 HPA9.out.row
         have hsz:=HB9.out.size
         have HON:=Lib.hid (show ∀ u ∈ (#[.bool leaf,.int .i64 kind,.slice mA cuts.length mca,.slice mC dual.length mcc,.int .i64 ck,.int .i64 ca',.int .i64 cb,.int .i64 cn,.int .i64 yes,.int .i64 no]:Array Value).toList,u.oneCell'=true from by intro u hu;simp at hu;rcases hu with rfl | rfl | rfl | rfl | rfl | rfl | rfl | rfl | rfl | rfl <;> rfl)
         go_wp2_with (at_builtin;refine wp_appk el_pnode rfl _ _ rfl w.heap.size _ _ _ (nd.flatMap NodeM.cells) w9 #[.bool leaf,.int .i64 kind,.slice mA cuts.length mca,.slice mC dual.length mcc,.int .i64 ck,.int .i64 ca',.int .i64 cb,.int .i64 cn,.int .i64 yes,.int .i64 no] rfl HPA9.out.own rfl rfl HON.out (by unfold maxLen;omega) (by omega) hsz ?_;intro A' c' w10 hown10 hb10 hk10;have p10:=hk10.row HPA9.out.row (HPA9.out.own.far HPA9.out.row (by decide));have f3:=frz p10 3;obtain ⟨e0,e1,e2,e3⟩:=cells4 p10)
         have hkb:=(KpB.refl pb w10).store 3 (.slice A' (nd.length+1) c')
         have hle:(nd ++ [(⟨mA,mca,mC,mcc,⟨leaf,kind,cuts,dual,ck,ca',cb,cn,yes,no⟩⟩:NodeM)]).length=nd.length+1:=by simp
         have hxs:nd.flatMap NodeM.cells ++ (#[.bool leaf,.int .i64 kind,.slice mA cuts.length mca,.slice mC dual.length mcc,.int .i64 ck,.int .i64 ca',.int .i64 cb,.int .i64 cn,.int .i64 yes,.int .i64 no]:Array Value).toList=(nd ++ [(⟨mA,mca,mC,mcc,⟨leaf,kind,cuts,dual,ck,ca',cb,cn,yes,no⟩⟩:NodeM)]).flatMap NodeM.cells:=flat_snoc NodeM.cells nd ⟨mA,mca,mC,mcc,⟨leaf,kind,cuts,dual,ck,ca',cb,cn,yes,no⟩⟩
         rw [hxs] at hown10
         have hrd11:RdAt (w10.setCell ⟨pb,3,none⟩ (.slice A' (nd.length+1) c')) g s' n1:=(Below.heap_setCell w10 ⟨pb,3,none⟩ (.slice A' (nd.length+1) c') _ HPB.out.1.symm).trans (hk10.row HRD9.out (HPA9.out.own.far HRD9.out (by decide)))
         have hb11:=(HB9.out.trans hb10).setCell (p:=⟨pb,3,none⟩) HPB.out.2.2 (.slice A' (nd.length+1) c')
         have hres11:=(Below.heap_setCell w10 ⟨pb,3,none⟩ (.slice A' (nd.length+1) c') _ HPB.out.2.1.symm).trans (hk10.row HPA9.out.res (HPA9.out.own.far HPA9.out.res (by decide)))
         have hms:szR g (w10.setCell ⟨pb,3,none⟩ (.slice A' (nd.length+1) c'))<szR g wr:=by rw [szR_at hrd11,HSZ.out];omega
         have hrel11:PaR R t g pb q PM w (.bool b) (w10.setCell ⟨pb,3,none⟩ (.slice A' (nd.length+1) c')):=by
          refine ⟨s',n1,hrd11,by omega,hb11,hres11,?_⟩
          cases b with
          |false =>
           have ho:o1=none:=HO.out
           exact .inl ⟨rfl,by rw [HND.out,ho];rfl⟩
          |true =>
           have ho:o1=some (⟨leaf,kind,cuts,dual,ck,ca',cb,cn,yes,no⟩:NodeV):=HO.out
           obtain ⟨q1,q2⟩:=HCNT.out _ ls1 n1 (by rw [ho])
           refine .inr ⟨rfl,ls1,f - 1,A',c',nd ++ [⟨mA,mca,mC,mcc,⟨leaf,kind,cuts,dual,ck,ca',cb,cn,yes,no⟩⟩],HLS8.out,by omega,by omega,by rw [hle];omega,?_,?_⟩
           ·rw [HND.out,ho,List.map_append];rfl
           ·refine ⟨by rw [hle];exact heap_put p10,hres11,(HPA9.out.plan.keptA hk10 HPA9.out.own (by decide) (by decide) (by decide) (by decide)).keptB hkb p10 (by decide) (by decide) (by decide) (by decide),by rw [hle];exact hown10.keptB hkb p10 (by decide),fun m hm=>?_⟩
            rcases List.mem_append.1 hm with h | h
            ·exact ((HPA9.out.each m h).keptA hk10 HPA9.out.own (by decide) (by decide)).keptB hkb p10 (by decide) (by decide)
            ·rw [List.mem_singleton.1 h];exact ((HNO9.out rfl).keptA hk10 HPA9.out.own (by decide) (by decide)).keptB hkb p10 (by decide) (by decide)
         all_goals first
          |exact ⟨hrel11,hms⟩
          |(go_roundw
            case rel=>exact hrel11
            case measure=>exact hms)
end Go.Proofs.YtljekdpgjaahjaaGreatDoor

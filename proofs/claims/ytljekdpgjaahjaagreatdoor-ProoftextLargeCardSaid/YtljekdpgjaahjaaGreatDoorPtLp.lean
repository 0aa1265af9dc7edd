/- Many empty nodes, long lines: plain. -/
import Derived.Test.YtljekdpgjaahjaaGreatDoorPtAw
namespace Go.Proofs.YtljekdpgjaahjaaGreatDoor
open Go.RowKit Num Txt Pf
set_option linter.unusedVariables false
abbrev node0:NodeV:=⟨false,0,[],[],0,0,0,0,0,0⟩
abbrev pz (N:Nat):ProofV:=⟨true,⟨[],[]⟩,List.replicate N node0⟩
abbrev node0S:Str:=[110,111,100,101,32,48,32,48,32,48,32,48,32,48,32,48,10]
abbrev endS:Str:=[101,110,100,10]
theorem node0_ok:nodeOK node0:=⟨by decide,by decide⟩
theorem node0_F:NodeF node0:=⟨by decide,fun c hc=>absurd hc (by simp),by simp,by simp,by decide,by decide,by decide,by decide,by decide,by decide⟩
theorem node0_S:nodeS node0=node0S:=by
 have h:nodeS node0=lineS [nodeW,decI 0,decI 0,decI 0,decI 0,decI 0,decI 0]:=rfl
 rw [h,aw_d0];rfl
def manyS (N:Nat):Str:=(List.replicate N node0).flatMap nodeS
theorem manyS_len (N:Nat):(manyS N).length=17*N:=by
 unfold manyS
 induction N with
 |zero=>rfl
 |succ N ih=>rw [List.replicate_succ,List.flatMap_cons,List.length_append,ih,node0_S];simp only [List.length_cons,List.length_nil];omega
theorem manyS_snoc (N:Nat):manyS (N+1)=manyS N ++ node0S:=by
 unfold manyS
 rw [List.replicate_succ',List.flatMap_append,← node0_S];simp
theorem pz_text (N:Nat):proofS (pz N)=awT ++ manyS N ++ endS:=rfl
theorem pz_len (N:Nat):(proofS (pz N)).length=15+17*N:=by
 rw [pz_text,List.length_append,List.length_append,manyS_len];simp only [List.length_cons,List.length_nil];omega
theorem pz_nodes (N:Nat):∀ x ∈ (pz N).nodes,nodeOK x:=fun x hx=>by rw [List.eq_of_mem_replicate hx];exact node0_ok
theorem pz_print (N:Nat):printR (pz N)=if N > 1024 then ([],4) else (proofS (pz N),0):=by
 unfold printR
 by_cases h:N > 1024
 ·rw [if_pos (by simpa using h),if_pos h]
 ·rw [if_neg (by simpa using h),if_neg h,if_neg (by simp),if_neg (fun h2=>h2 (nodesE_zero.2 (pz_nodes N))),if_neg (by rw [pz_len];omega)]
theorem pz_cut (N:Nat):(proofS (pz N)).take (15+17*N - 4) ++ (node0S ++ endS)=proofS (pz (N+1)):=by
 rw [pz_text,pz_text,manyS_snoc]
 have h:15+17*N - 4=(awT ++ manyS N).length:=by rw [List.length_append,manyS_len];simp only [List.length_cons,List.length_nil];omega
 rw [h,List.take_left]
 simp only [List.append_assoc]
theorem pz_parse {N:Nat} (h:N≤1024):parseR (proofS (pz N))=(pz N,0,0):=by
 have hp:=pz_print N
 rw [if_neg (by omega)] at hp
 have:=print_parse (p:=pz N) (by rw [hp]) (fun x hx=>by rw [List.eq_of_mem_replicate hx];exact node0_F) (.inl rfl)
 rw [hp] at this
 exact this
theorem pz_lines (N:Nat):linesG (proofS (pz N))=(headL (pz N) :: (nodesL (pz N).nodes ++ [endW]),[]):=lines_uniq (proof_lines (pz_nodes N))
theorem pz_head (N:Nat):∀ l ls,(linesG (proofS (pz N))).1=l :: ls→∀ a b c,wordsL l=[a,b,c]→(unqS c).length≤6000:=by
 intro l ls hl a b c hw
 rw [pz_lines] at hl
 injection hl with hl _
 have h:headL (pz N)=joinP [proofW,noneW]:=rfl
 rw [← hl,h,(words_line (ws:=[proofW,noneW]) (fun q hq=>by simp at hq;rcases hq with rfl | rfl <;> exact .inl (by decide))).1] at hw
 cases hw
theorem nodesL_snoc (K:Nat):nodesL (List.replicate (K+1) node0) ++ [endW]=nodesL (List.replicate K node0) ++ (nodeL node0 ++ [endW]):=by
 unfold nodesL
 rw [List.replicate_succ',List.flatMap_append,List.append_assoc]
 simp
theorem pz_big:parseR (proofS (pz 1025))=(noProof,1026,4):=by
 unfold parseR
 rw [if_neg (by rw [pz_len];omega),pz_lines]
 simp only
 rw [show headR (headL (pz 1025))=some (true,⟨[],[]⟩) from headR_of (p:=pz 1025) (.inl ⟨rfl,rfl⟩)]
 simp only
 have hs:nodesL (pz 1025).nodes ++ [endW]=nodesL (List.replicate 1024 node0) ++ (nodeL node0 ++ [endW]):=nodesL_snoc 1024
 have hl:∀ k,(nodesL (List.replicate k node0)).length=k:=by
  intro k
  induction k with
  |zero=>rfl
  |succ k ih=>rw [List.replicate_succ];show (nodeL node0 ++ nodesL (List.replicate k node0)).length=_;rw [List.length_append,ih];show 1+k=k+1;omega
 have hf:=parseF_many (xs:=List.replicate 1024 node0) (f:=(nodesL (pz 1025).nodes ++ [endW]).length+1) (nd:=[]) (ls:=nodeL node0 ++ [endW]) (t:=false) (n:=1) (fun x hx=>by rw [List.eq_of_mem_replicate hx];exact ⟨node0_ok,node0_F⟩) (by rw [List.length_replicate];decide) (by rw [hs,List.length_append,hl,List.length_replicate];omega)
 rw [show (!([]:Str).isEmpty)=false from rfl]
 have e:parseF ((nodesL (pz 1025).nodes ++ [endW]).length+1) [] (nodesL (pz 1025).nodes ++ [endW]) false 1=([],1026,4):=by
  conv=>lhs;rw [hs]
  rw [hs] at hf
  rw [hf,List.nil_append,hl,List.length_append,hl,List.length_replicate]
  show parseF _ (List.replicate 1024 node0) (firstL node0 :: (tailL node0 ++ [endW])) false 1025=_
  rw [parseF_step (by omega) (first_end node0_F),if_pos ⟨List.length_replicate,(nodeR_of node0_ok node0_F [] 0).2⟩]
 rw [e]
 rfl
theorem xs_parse (L:Nat):parseR (List.replicate L 120)=(noProof,if L > 65536 then 0 else 1,if L > 65536 then 4 else 3):=by
 unfold parseR
 rw [List.length_replicate]
 by_cases h:L > 65536
 ·rw [if_pos h,if_pos h,if_pos h]
 ·rw [if_neg h,if_neg h,if_neg h]
  have hL:linesG (List.replicate L 120)=([],List.replicate L 120):=lines_uniq ⟨rfl,fun l hl=>absurd hl (by simp),fun c hc=>by rw [List.eq_of_mem_replicate hc];decide⟩
  rw [hL]
theorem xs_head (L:Nat):∀ l ls,(linesG (List.replicate L 120)).1=l :: ls→∀ a b c,wordsL l=[a,b,c]→(unqS c).length≤6000:=by
 intro l ls hl
 have hL:linesG (List.replicate L 120)=([],List.replicate L 120):=lines_uniq ⟨rfl,fun l hl=>absurd hl (by simp),fun c hc=>by rw [List.eq_of_mem_replicate hc];decide⟩
 rw [hL] at hl
 cases hl
end Go.Proofs.YtljekdpgjaahjaaGreatDoor

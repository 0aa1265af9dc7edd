/- The laws Prooftext: what is printed and read back. -/
import Derived.Test.YtljekdpgjaahjaaGreatDoorPtK
import Derived.Test.YtljekdpgjaahjaaGreatDoorPtAw
import Derived.Test.YtljekdpgjaahjaaGreatDoorG55
namespace Go.Proofs.YtljekdpgjaahjaaGreatDoor
open Go.RowKit Num Txt Pf
set_option linter.unusedVariables false
theorem nodeF_of {w:World} {m:NodeM} (h:NodeAt w m) (h1:m.n.cuts.length≤1000000) (h2:m.n.dual.length≤1000000):NodeF m.n:=⟨h.kind,h.cutsF,h1,h2,h.ck,h.ca,h.cb,h.cn,h.yes,h.no⟩
theorem print_ok {p:ProofV} (h:(printR p).2=0):printR p=(proofS p,0)∧(∀ x ∈ p.nodes,nodeOK x)∧(proofS p).length≤65536:=by
 unfold printR at h ⊢
 split at h
 ·exact absurd h (by decide)
 rename_i h1
 split at h
 ·exact absurd h (by decide)
 rename_i h2
 split at h
 ·rename_i h3;exact absurd h h3
 rename_i h3
 split at h
 ·exact absurd h (by decide)
 rename_i h4
 rw [if_neg h1,if_neg h2,if_neg h3,if_neg h4]
 exact ⟨rfl,nodesE_zero.1 (Decidable.not_not.1 h3),by omega⟩
theorem print_no {p:ProofV} (h:(printR p).2≠0):(printR p).1=[]:=by
 unfold printR at h ⊢
 split at h
 ·rename_i h1;rw [if_pos h1]
 rename_i h1
 rw [if_neg h1]
 split at h
 ·rename_i h2;rw [if_pos h2]
 rename_i h2
 rw [if_neg h2]
 split at h
 ·rename_i h3;rw [if_pos h3]
 rename_i h3
 rw [if_neg h3]
 split at h
 ·rename_i h4;rw [if_pos h4]
 ·exact absurd rfl h
theorem print_head {p:ProofV} (hx:∀ x ∈ p.nodes,nodeOK x) (hl:(planS p.plan).length≤5000):∀ l ls,(linesG (proofS p)).1=l :: ls→∀ a b c,wordsL l=[a,b,c]→(unqS c).length≤6000:=by
 intro l ls h a b c hw
 rw [lines_uniq (proof_lines hx)] at h
 injection h with h _
 subst h
 unfold headL at hw
 split at hw
 ·rw [(words_line (ws:=[proofW,noneW]) (fun p hp=>by
   simp only [List.mem_cons,List.not_mem_nil,or_false] at hp
   rcases hp with rfl | rfl <;> exact .inl (by decide))).1] at hw
  simp at hw
 ·rw [(words_line (ws:=[proofW,planW,quote (planS p.plan)]) (fun q hp=>by
   simp only [List.mem_cons,List.not_mem_nil,or_false] at hp
   rcases hp with rfl | rfl | rfl
   ·exact .inl (by decide)
   ·exact .inl (by decide)
   ·exact .inr ⟨_,rfl⟩)).1] at hw
  injection hw with _ hw
  injection hw with _ hw
  injection hw with hw _
  subst hw
  rw [unqS_quote]
  omega
theorem reads_print (m:ProofM) (w:World) (h:ProofAt w m) (hf:FewP m.v) (he:EnvP w) :
  Calls Tryz.prog 11 #[proofA m] w fun e w'=>∃ (S:Str) (g:Int),e=.returned (.tuple #[.string (B S),.int .i64 g])∧printR m.v=(S,g)∧Below w.heap.size w w':=by
 obtain ⟨f1,f2,f3,f4⟩:=few_plan h.plan hf.plan
 have h1:=pprintp_any m w h (by omega) (by omega) f3 (by omega) (fun n hn=>by
  have:=hf.node n.n (List.mem_map_of_mem hn)
  exact ⟨by omega,by omega,fun d hd=>by have:=this.2.2 d hd;omega⟩) he.1
 refine h1.mono ?_
 rintro e w' ⟨rfl,hb⟩
 exact ⟨_,_,rfl,rfl,hb⟩
def KeptP (m:ProofM):Prop:=m.none=true∨m.none=false∧(planR (planS m.P.v)).2.2=0∧(planR (planS m.P.v)).1=m.P.v
theorem reads_parse (m:ProofM) (w:World) (S:Str) (h:ProofAt w m) (hf:FewP m.v) (hk:KeptP m) (he:EnvP w) (hp:printR m.v=(S,0)) :
  Calls Tryz.prog 13 #[.string (B S)] w fun e w'=>∃ m2:ProofM,e=.returned (.tuple #[proofA m2,.int .i64 0,.int .i64 0])∧m2.v=m.v∧ProofAt w' m2∧Below w.heap.size w w':=by
 obtain ⟨f1,f2,f3,f4⟩:=few_plan h.plan hf.plan
 obtain ⟨p1,p2,p3⟩:=print_ok (p:=m.v) (by rw [hp])
 have hS:S=proofS m.v:=by rw [hp] at p1;injection p1
 subst hS
 have hb:=print_parse (p:=m.v) (by rw [hp]) (fun x hx=>by
  obtain ⟨y,hy,rfl⟩:=List.mem_map.1 hx
  have:=hf.node y.n hx
  exact nodeF_of (h.each y hy) (by omega) (by omega)) hk
 rw [hp] at hb
 have h1:=parse_any (proofS m.v) w (by omega) (print_head p2 f4) he
 rw [show parseR (proofS m.v)=(m.v,0,0) from hb] at h1
 refine h1.mono ?_
 rintro e w' ⟨m2,rfl,hm,ha,hb⟩
 exact ⟨m2,rfl,hm,ha,hb⟩
end Go.Proofs.YtljekdpgjaahjaaGreatDoor

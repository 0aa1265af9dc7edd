/- A matrix of numbers that came in (a [][]api.Rat), as the walk wants it. -/
import Derived.Test.YtmppmdmekomjbaaGreatDoorG15
import Derived.Test.YtmppmdmekomjbaaGreatDoorG19
namespace Go.Proofs.YtmppmdmekomjbaaGreatDoor
open Go.ChangeShapes Go.WideShapes Go.RowKit Num
set_option linter.unusedVariables false
structure VecV where
 A:Option Addr
 c:Nat
 xs:List Str
def MatAt (w:World) (A:Option Addr) (rs:List VecV):Prop :=
 (0<rs.length→∃ b off,A=some ⟨b,off,none⟩∧b<w.heap.size∧∀ i (hi:i<rs.length),w.cell? ⟨b,off+i,none⟩=some (.slice rs[i].A rs[i].xs.length rs[i].c)) ∧
 ∀ r ∈ rs,Cells w r.A (strs r.xs)
theorem MatAt.below {w w':World} {A:Option Addr} {rs:List VecV} (h:MatAt w A rs) (hb:Below w.heap.size w w'):MatAt w' A rs:=by
 refine ⟨fun h0=>?_,fun r hr=>(h.2 r hr).below hb⟩
 obtain ⟨b,off,e,hlt,hc⟩:=h.1 h0
 exact ⟨b,off,e,Nat.lt_of_lt_of_le hlt hb.size,fun i hi=>(hb.cell (p:=⟨b,off+i,none⟩) hlt).trans (hc i hi)⟩
def VecV.ok (r:VecV):Prop:=r.xs.length≤r.c∧r.c≤maxLen∧∀ x ∈ r.xs,x.length≤maxLen
section
variable {H:Type} {enc:TypeId × Value→H} {W:World} {P:Program} {t ts te:TypeId}
theorem open_strs_cells (ht:P.underlying ts=some (.slice te)) (he:P.underlying te=some .string) (hc:P.cellsOf te=1) {fuel:Nat} {cs:List Value} {x:DataW H × List MemPlace}
  (hf:DataW.trod enc P W 0 (fun _=>true) true fuel ts cs=some x) :
  ∃ r:VecV,cs=[.slice r.A r.xs.length r.c]∧r.ok∧Cells W r.A (Go.Proofs.YtmppmdmekomjbaaGreatDoor.strs r.xs):=by
 have hcs:∃ a len cap,cs=[.slice a len cap]:=by
  rcases open_strings ht he hc hf with ⟨hcs,_⟩ | ⟨a,len,cap,_,hcs,_⟩
  ·exact ⟨_,_,_,hcs⟩
  ·exact ⟨_,_,_,hcs⟩
 obtain ⟨a,len,cap,rfl⟩:=hcs
 obtain ⟨A,ls,c,hv,h1,h2,h3,h4⟩:=open_strs_list (v:=.slice a len cap) (d:=x.1) (p:=x.2) ht he hc ⟨_,_,_,rfl⟩ ⟨fuel,by simpa [Value.cells] using hf⟩
 exact ⟨⟨A,c,ls⟩,by rw [hv],⟨h1,h2,h4⟩,h3⟩
theorem open_mat (ht:P.underlying t=some (.slice ts)) (hts:P.underlying ts=some (.slice te)) (he:P.underlying te=some .string) (hce:P.cellsOf te=1) (hcs:P.cellsOf ts=1) {v:Value} {d:DataW H} {p:List MemPlace}
  (hv:∃ a len cap,v=.slice a len cap) (h:DataW.Trod enc P W 0 (fun _=>true) true t v d p) :
  ∃ (A:Option Addr) (rs:List VecV) (c:Nat),v=.slice A rs.length c∧rs.length≤c∧c≤maxLen∧MatAt W A rs∧∀ r ∈ rs,r.ok:=by
 obtain ⟨a0,len0,cap0,rfl⟩:=hv
 obtain ⟨fuel,hf0⟩:=h
 have hf:DataW.trod enc P W 0 (fun _=>true) true fuel t [.slice a0 len0 cap0]=some (d,p):=by simpa [Value.cells] using hf0
 rcases DataW.trod_slice ht hf with ⟨h1,_⟩ | ⟨a,len,cap,elems,rest,n,_,hc1,_,_,hl,hm,hlen,hel,_,_⟩
 ·injection h1 with h1 _
  exact ⟨none,[],0,h1,by simp,by unfold maxLen;omega,⟨fun h=>absurd h (by simp),fun r hr=>absurd hr (by simp)⟩,fun r hr=>absurd hr (by simp)⟩
 ·rw [hcs] at hel
  injection hc1 with hc1 _
  have key:∀ i,i<len→∃ r:VecV,W.cell? ((a.add (i*1)).add 0)=some (.slice r.A r.xs.length r.c)∧r.ok∧Cells W r.A (Go.Proofs.YtmppmdmekomjbaaGreatDoor.strs r.xs):=by
   intro i hi
   have h1:=hel i hi
   rw [List.getElem?_eq_getElem (show i<elems.length by omega)] at h1
   obtain ⟨us,hu1,hu2⟩:=Option.bind_eq_some_iff.1 h1
   obtain ⟨_,hu3,hu4⟩:=World.cells?_some hu1
   obtain ⟨r,rfl,hr1,hr2⟩:=open_strs_cells hts he hce hu2
   exact ⟨r,hu4 0 (by omega),hr1,hr2⟩
  obtain ⟨rs,hrl,hrp⟩:=list_choose len _ key
  have hin:∀ r ∈ rs,r.ok∧Cells W r.A (Go.Proofs.YtmppmdmekomjbaaGreatDoor.strs r.xs):=by
   intro r hr
   obtain ⟨i,hi,rfl⟩:=List.getElem_of_mem hr
   exact (hrp i hi).2
  refine ⟨some a,rs,cap,by rw [hc1,hrl],by omega,hm,⟨fun h0=>?_,fun r hr=>(hin r hr).2⟩,fun r hr=>(hin r hr).1⟩
  obtain ⟨b,off,spot⟩:=a
  have h00:=(hrp 0 h0).1
  have hspot:spot=none:=by simpa [Addr.add] using World.cell?_spot h00
  subst hspot
  rw [add_plain] at h00
  refine ⟨b,off,rfl,lt_of_cell h00,fun i hi=>?_⟩
  have h1:=(hrp i hi).1
  rw [add_plain,add_plain] at h1
  simpa using h1
end
end Go.Proofs.YtmppmdmekomjbaaGreatDoor
namespace Go.Proofs.YtmppmdmekomjbaaGreatDoor
open Go.RowKit Num
set_option linter.unusedVariables false
theorem mrat_info:(Tryz.prog.info? 29).map (fun i=>(i.zero,i.size,i.bytes))=some (some (.string (B [])),1,16):=by kernel_rfl
theorem el_mrat:Elem Tryz.prog 28 29 (.string (B [])) 16:=⟨Tryz.underlying28,info_parts mrat_info,rfl⟩
theorem mrow_info:(Tryz.prog.info? 28).map (fun i=>(i.zero,i.size,i.bytes))=some (some (.slice none 0 0),1,24):=by kernel_rfl
theorem el_mrow:Elem Tryz.prog 58 28 (.slice none 0 0) 24:=⟨Tryz.underlying58,info_parts mrow_info,rfl⟩
theorem OwnS.other {w:World} {Bs:Nat} {e:TypeId} {A:Option Addr} {n c:Nat} {xs:List Value} (h:OwnS w Bs e A n c xs) {g j:Nat} {u:Value} (hg:A≠some ⟨g,0,none⟩):OwnS (w.setCell ⟨g,j,none⟩ u) Bs e A n c xs:=by
 refine ⟨h.1,?_⟩
 rcases h.2 with h2 | ⟨g',cap,cur,hv,hgb,hh,r⟩
 ·exact .inl h2
 ·refine .inr ⟨g',cap,cur,hv,hgb,?_,r⟩
  injection hv with hA _ _
  rw [Below.heap_setCell _ _ _ _ (fun e=>hg (by rw [hA];show some (⟨g',0,none⟩:Addr)=_;rw [e]))]
  exact hh
def hdrs (hA:Nat→Option Addr) (hC:Nat→Nat) (M:List (List Str)):List Value:=(List.range M.length).map fun i=>Value.slice (hA i) (M.getD i []).length (hC i)
theorem hdrs_length (hA:Nat→Option Addr) (hC:Nat→Nat) (M:List (List Str)):(hdrs hA hC M).length=M.length:=by unfold hdrs;simp
theorem hdrs_get (hA:Nat→Option Addr) (hC:Nat→Nat) (M:List (List Str)) {i:Nat} (hi:i<M.length):(hdrs hA hC M)[i]? = some (.slice (hA i) (M.getD i []).length (hC i)):=by
 unfold hdrs;rw [List.getElem?_map,List.getElem?_range hi];rfl
structure MatO (w:World) (Bs:Nat) (A:Option Addr) (c:Nat) (hA:Nat→Option Addr) (hC:Nat→Nat) (M:List (List Str)):Prop where
 outer:OwnS w Bs 28 A M.length c (hdrs hA hC M)
 rows:∀ i,i<M.length→OwnS w Bs 29 (hA i) (M.getD i []).length (hC i) (strs (M.getD i []))
 apart:∀ i j,i<M.length→j<M.length→i≠j→∀ g,hA i=some g→hA j≠some g
 apart0:∀ i,i<M.length→∀ g,hA i=some g→A≠some g
section
variable {w w':World} {Bs:Nat} {A:Option Addr} {c:Nat} {hA:Nat→Option Addr} {hC:Nat→Nat} {M:List (List Str)}
theorem MatO.below (h:MatO w Bs A c hA hC M) (hb:Below w.heap.size w w'):MatO w' Bs A c hA hC M :=
 ⟨h.outer.below hb,fun i hi=>(h.rows i hi).below hb,h.apart,h.apart0⟩
theorem MatO.mono {Bs':Nat} (h:MatO w Bs A c hA hC M) (hB:Bs'≤Bs):MatO w Bs' A c hA hC M :=
 ⟨h.outer.mono hB,fun i hi=>(h.rows i hi).mono hB,h.apart,h.apart0⟩
theorem MatO.hdr (h:MatO w Bs A c hA hC M) (h0:0<M.length):∃ g,A=some ⟨g,0,none⟩∧Bs≤g∧g<w.heap.size∧(∀ i,i<M.length→w.cell? ⟨g,i,none⟩=some (.slice (hA i) (M.getD i []).length (hC i)))∧∀ j,w.frozen? ⟨g,j,none⟩=false:=by
 obtain ⟨g,e,h1,h2,h3,h4⟩:=h.outer.at_ h0
 exact ⟨g,e,h1,h2,fun i hi=>by rw [h3 i hi,hdrs_get _ _ _ hi],h4⟩
theorem MatO.row (h:MatO w Bs A c hA hC M) {i:Nat} (hi:i<M.length) (h0:0<(M.getD i []).length):∃ g,hA i=some ⟨g,0,none⟩∧Bs≤g∧g<w.heap.size∧(∀ j,j<(M.getD i []).length→w.cell? ⟨g,j,none⟩=some (.string (B (cellM M i j))))∧∀ j,w.frozen? ⟨g,j,none⟩=false:=by
 obtain ⟨g,e,h1,h2,h3,h4⟩:=(h.rows i hi).at_ h0
 exact ⟨g,e,h1,h2,fun j hj=>by rw [h3 j hj,strs_get _ _ hj];rfl,h4⟩
theorem getD_set {M:List (List Str)} {i k:Nat} {r:List Str} (hi:i<M.length):(M.set i r).getD k []=if k=i then r else M.getD k []:=by
 rw [List.getD_eq_getElem?_getD,List.getD_eq_getElem?_getD,List.getElem?_set]
 by_cases e:i=k
 ·subst e;simp [hi]
 ·rw [if_neg e,if_neg (fun h=>e h.symm)]
theorem strs_set (l:List Str) (j:Nat) (s:Str):(strs l).set j (.string (B s))=strs (l.set j s):=by unfold strs;rw [List.map_set]
theorem MatO.store (h:MatO w Bs A c hA hC M) {i j g:Nat} (hi:i<M.length) (hg:hA i=some ⟨g,0,none⟩) (s:Str):MatO (w.setCell ⟨g,j,none⟩ (.string (B s))) Bs A c hA hC (M.set i ((M.getD i []).set j s)):=by
 have hlen:∀ k,((M.set i ((M.getD i []).set j s)).getD k []).length=(M.getD k []).length:=by
  intro k
  rw [getD_set hi]
  split
  ·rename_i e;rw [e,List.length_set]
  ·rfl
 have hh:hdrs hA hC (M.set i ((M.getD i []).set j s))=hdrs hA hC M:=by
  unfold hdrs
  rw [List.length_set]
  exact List.map_congr_left fun k _=>by rw [hlen]
 refine ⟨?_,fun k hk=>?_,?_,?_⟩
 ·rw [hh,List.length_set]
  exact h.outer.other (h.apart0 i hi _ hg)
 ·rw [List.length_set] at hk
  rw [hlen,getD_set hi]
  by_cases e:k=i
  ·subst e
   rw [if_pos rfl]
   have:=h.rows k hk
   rw [hg] at this ⊢
   rw [← strs_set]
   exact this.stored j _
  ·rw [if_neg e]
   exact (h.rows k hk).other (h.apart i k hi hk (fun e2=>e e2.symm) _ hg)
 ·rw [List.length_set];exact h.apart
 ·rw [List.length_set];exact h.apart0
end
section
variable {w w':World} {Bs:Nat} {e e':TypeId} {A:Option Addr} {n c n' c' g:Nat} {xs ys:List Value}
theorem OwnS.typ (h:OwnS w Bs e (some ⟨g,0,none⟩) n c xs):Bs≤g∧g<w.heap.size∧∃ cur,w.heap[g]? = some (.cells cur e (0,0)):=by
 rcases h.2 with ⟨hv,_⟩ | ⟨g',cap,cur,hv,hb,hh,_⟩
 ·injection hv with hv _ _;cases hv
 ·injection hv with hv _ _
  injection hv with hv
  injection hv with hv _ _
  subst hv
  refine ⟨hb,?_,cur,hh⟩
  rcases Nat.lt_or_ge g w.heap.size with h' | h'
  ·exact h'
  ·rw [Array.getElem?_eq_none h'] at hh;cases hh
theorem OwnS.ne (h:OwnS w Bs e (some ⟨g,0,none⟩) n c xs) (h2:OwnS w Bs e' A n' c' ys) (he:e≠e'):A≠some ⟨g,0,none⟩:=by
 intro hA
 subst hA
 obtain ⟨_,_,cur,h3⟩:=h.typ
 obtain ⟨_,_,cur2,h4⟩:=h2.typ
 rw [h3] at h4
 injection h4 with h4
 injection h4 with _ h4 _
 exact he h4
theorem OwnS.keep (h:OwnS w Bs e A n c xs) (hk:∀ b,A=some ⟨b,0,none⟩→w'.heap[b]? = w.heap[b]?):OwnS w' Bs e A n c xs:=by
 refine ⟨h.1,?_⟩
 rcases h.2 with h2 | ⟨g',cap,cur,hv,hgb,hh,r⟩
 ·exact .inl h2
 ·refine .inr ⟨g',cap,cur,hv,hgb,?_,r⟩
  injection hv with hA _ _
  rw [hk g' hA];exact hh
end
section
variable {w w':World} {Bs:Nat} {A:Option Addr} {c:Nat} {hA:Nat→Option Addr} {hC:Nat→Nat} {M:List (List Str)}
theorem MatO.keep {P:Option Addr} {n cp:Nat} {ps:List Value} (h:MatO w Bs A c hA hC M) (hP:OwnS w Bs 3 P n cp ps) (hk:∀ b,b<w.heap.size→P≠some ⟨b,0,none⟩→w'.heap[b]? = w.heap[b]?):MatO w' Bs A c hA hC M:=by
 have key:∀ {e:TypeId} {X:Option Addr} {m cx:Nat} {xs:List Value},OwnS w Bs e X m cx xs→3≠e→OwnS w' Bs e X m cx xs:=by
  intro e X m cx xs hx he
  refine hx.keep fun b hb=>?_
  subst hb
  exact hk b hx.typ.2.1 fun hp=>by subst hp;exact hP.ne hx he rfl
 exact ⟨key h.outer (by decide),fun i hi=>key (h.rows i hi) (by decide),h.apart,h.apart0⟩
end
section
variable {P:Program} {ops:Array Oper} {rest:List Oper} {o:Oper} {a:Act} {Q:Exit→Act→World→Prop}
end
end Go.Proofs.YtmppmdmekomjbaaGreatDoor

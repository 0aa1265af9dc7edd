/- The values of rational texts as rational numbers: plain. -/
import Derived.Test.YtjcekdiocliddaaGreatDoorG46
import Derived.Test.YtjcekdiocliddaaGreatDoorG1
import Derived.Test.YtjcekdiocliddaaGreatDoorG10
import Derived.SliceStrings
import Derived.Carry
import Derived.ChangeSlices
import Derived.ChangeSame
namespace Go.Proofs.YtjcekdiocliddaaGreatDoor
namespace Num
set_option linter.unusedVariables false
end Num
end Go.Proofs.YtjcekdiocliddaaGreatDoor
namespace Go.Proofs.YtjcekdiocliddaaGreatDoor
namespace Num
set_option linter.unusedVariables false
end Num
end Go.Proofs.YtjcekdiocliddaaGreatDoor
namespace Go.Proofs.YtjcekdiocliddaaGreatDoor
namespace Num
set_option linter.unusedVariables false
structure RowL where
 coef:List Int
 kind:Int
 right:Int
structure LinL where
 cost:List Int
 rows:List RowL
def col (p:LinL) (i:Nat):List Int:=p.rows.map fun r=>r.coef.getD i 0
end Num
end Go.Proofs.YtjcekdiocliddaaGreatDoor
namespace Go.Proofs.YtjcekdiocliddaaGreatDoor
open Go.ChangeShapes Go.WideShapes Go.RowKit Num
set_option linter.unusedVariables false
theorem lt_of_cell {w:World} {b o:Nat} {u:Value} {j:Nat} (h:w.cell? ((⟨b,o,none⟩:Addr).add j)=some u):b<w.heap.size:=by
 rcases Nat.lt_or_ge b w.heap.size with h' | h'
 ·exact h'
 ·rw [add_plain] at h
  unfold World.cell? at h;simp only at h;rw [Array.getElem?_eq_none h'] at h;simp at h
theorem open_strs_list {H:Type} {enc:TypeId × Value->H} {W:World} {P:Program} {t e:TypeId} (ht:P.underlying t=some (.slice e)) (he:P.underlying e=some .string) (hc:P.cellsOf e=1) {v:Value} {d:DataW H} {p:List MemPlace}
  (hv:∃ a len cap,v=.slice a len cap) (h:DataW.Trod enc P W 0 (fun _=>true) true t v d p) :
  ∃ (A:Option Addr) (ls:List Sr) (c:Nat),v=.slice A ls.length c/\ls.length<=c/\c<=maxLen/\Cs W A (Go.Proofs.YtjcekdiocliddaaGreatDoor.strs ls)/\∀ s ∈ ls,s.length<=maxLen:=by
 obtain ⟨a0,len,cap,rfl⟩:=hv;obtain ⟨fuel,hf⟩:=h;rcases open_strings ht he hc hf with ⟨hcs,hx⟩ | ⟨a,len',cap',ss,hcs,_,hl,hm,hz,hx,hcell,hsz⟩
 ·simp [Value.cells] at hcs
  obtain ⟨rfl,rfl,rfl⟩:=hcs;exact ⟨none,[],0,rfl,by simp,by unfold maxLen;omega,Cs.nil _ _,by simp⟩
 ·simp [Value.cells] at hcs
  obtain ⟨rfl,rfl,rfl⟩:=hcs;simp only [if_true] at hz;obtain ⟨b,off,spot⟩:=a;have hlen:(ss.take len).length=len:=by rw [List.length_take];omega
  refine ⟨some ⟨b,off,spot⟩,(ss.take len).map (fun s=>s.data.toList),cap,by rw [List.length_map,hlen],by rw [List.length_map,hlen];exact hl,hm,fun h0=>?_,?_⟩
  ·rw [sH,List.length_map,hlen] at h0
   have hspot:spot=none:=by simpa [Addr.add] using World.cell?_spot (hcell 0 (by omega))
   subst hspot;refine ⟨b,off,rfl,lt_of_cell (hcell 0 (by omega)),fun j u hu=>?_⟩
   have hj:j<len:=by
    have:=(List.getElem?_eq_some_iff.1 hu).1;rw [sH,List.length_map,hlen] at this;exact this
   have h1:=hcell j (by omega);rw [add_plain] at h1;rw [h1,<- hu];have hjs:j<ss.length:=by omega
   simp only [Go.Proofs.YtjcekdiocliddaaGreatDoor.strs,List.getElem?_map,List.getElem?_take_of_lt hj,List.getElem?_eq_getElem hjs,Option.map_some,List.getD_eq_getElem?_getD,Option.getD_some];rw [<- B_of]
  ·intro s hs
   obtain ⟨x,hx1,rfl⟩:=List.mem_map.1 hs;have:=hsz x (List.mem_of_mem_take hx1);show x.data.toList.length<=maxLen
   rw [Array.length_toList];exact this
theorem arg_stays {H:Type} {enc:TypeId × Value->H} {P:Program} {t:TypeId} (hl:laidOutB P=true) (hr:P.readableRec t=true) (hrow:t<P.types.size) {W W':World} {v:Value} {d:DataW H} {ps:List MemPlace}
  (h:DataW.Trod enc P W 0 (fun _=>true) true t v d ps) (hb:Below W.heap.size W W') (hlt:∀ x ∈ ps,x.block<W.heap.size) {sp:Nat->Bool} (hs:∀ x ∈ ps,sp x.block=true) :
  DataW.Trod enc P W' 0 sp true t v d ps :=
 WideElems.Trod_stays hl hr hrow h (fun x hx=>hb.same (hlt x hx)) hs
theorem open_ints_list {H:Type} {enc:TypeId × Value->H} {W:World} {P:Program} {t e:TypeId} (ht:P.underlying t=some (.slice e)) (he:P.underlying e=some (.int .i64)) (hc:P.cellsOf e=1) {v:Value} {d:DataW H} {p:List MemPlace}
  (hv:∃ a len cap,v=.slice a len cap) (h:DataW.Trod enc P W 0 (fun _=>true) true t v d p) :
  ∃ (A:Option Addr) (ns:List Int) (c:Nat),v=.slice A ns.length c/\ns.length<=c/\c<=maxLen/\Cs W A (Go.Proofs.YtjcekdiocliddaaGreatDoor.ints ns)/\∀ n ∈ ns,fits n:=by
 obtain ⟨a0,len,cap,rfl⟩:=hv;obtain ⟨fuel,hf⟩:=h;rcases open_ints ht he hc hf with ⟨hcs,hx⟩ | ⟨a,len',cap',zs,hcs,_,hl,hm,hz,hx,hcell,hsz⟩
 ·simp [Value.cells] at hcs
  obtain ⟨rfl,rfl,rfl⟩:=hcs;exact ⟨none,[],0,rfl,by simp,by unfold maxLen;omega,Cs.nil _ _,by simp⟩
 ·simp [Value.cells] at hcs
  obtain ⟨rfl,rfl,rfl⟩:=hcs;simp only [if_true] at hz;obtain ⟨b,off,spot⟩:=a;have hlen:(zs.take len).length=len:=by rw [List.length_take];omega
  refine ⟨some ⟨b,off,spot⟩,zs.take len,cap,by rw [hlen],by rw [hlen];exact hl,hm,fun h0=>?_,?_⟩
  ·rw [il,hlen] at h0
   have hspot:spot=none:=by simpa [Addr.add] using World.cell?_spot (hcell 0 (by omega))
   subst hspot;refine ⟨b,off,rfl,lt_of_cell (hcell 0 (by omega)),fun j u hu=>?_⟩
   have hj:j<len:=by
    have:=(List.getElem?_eq_some_iff.1 hu).1;rw [il,hlen] at this;exact this
   have h1:=hcell j (by omega);rw [add_plain] at h1;rw [h1,<- hu];have hjs:j<zs.length:=by omega
   simp only [Go.Proofs.YtjcekdiocliddaaGreatDoor.ints,List.getElem?_map,List.getElem?_take_of_lt hj,List.getElem?_eq_getElem hjs,Option.map_some,List.getD_eq_getElem?_getD,Option.getD_some]
  ·intro n hn
   have h2:=hsz n (List.mem_of_mem_take hn);have h3:IntKind.i64.min<=n/\n<=IntKind.i64.max:=by simpa [Lit.wf] using h2
   exact h3
structure RowV where
 A:Option Addr
 c:Nat
 L:RowL
def RowV.ok (r:RowV):Prop:=r.L.coef.length<=r.c/\r.c<=maxLen/\(∀ n ∈ r.L.coef,fits n)/\fits r.L.kind/\fits r.L.right
theorem lE {α:Type} (n:Nat) (Pr:Nat->α->Prop) (h:∀ i,i<n->∃ a,Pr i a):∃ l:List α,l.length=n/\∀ i (hi:i<l.length),Pr i l[i]:=by
 induction n with
 |zero=>exact ⟨[],rfl,fun i hi=>absurd hi (by simp)⟩
 |succ n ih =>
  obtain ⟨l,hl,hp⟩:=ih (fun i hi=>h i (by omega));obtain ⟨a,ha⟩:=h n (by omega);refine ⟨l ++ [a],by simp [hl],fun i hi=>?_⟩;by_cases hi2:i<l.length
  ·rw [List.getElem_append_left hi2];exact hp i hi2
  ·have:i=l.length:=by simp at hi;omega
   subst this;rw [List.getElem_append_right (Nat.le_refl _)];simp only [Nat.sub_self,List.getElem_singleton];rw [hl];exact ha
theorem Wf {n:Int} (h:(Lit.int .i64 n).wf=true):fits n:=by
 have h3:IntKind.i64.min<=n/\n<=IntKind.i64.max:=by simpa [Lit.wf] using h
 exact h3
theorem oI {H:Type} {enc:TypeId × Value->H} {W:World} {P:Program} {t e:TypeId} (ht:P.underlying t=some (.slice e)) (he:P.underlying e=some (.int .i64)) (hc:P.cellsOf e=1) {fuel:Nat} {cs:List Value} {x:DataW H × List MemPlace}
  (hf:DataW.trod enc P W 0 (fun _=>true) true fuel t cs=some x) :
  ∃ (A:Option Addr) (ns:List Int) (c:Nat),cs=[.slice A ns.length c]/\ns.length<=c/\c<=maxLen/\Cs W A (Go.Proofs.YtjcekdiocliddaaGreatDoor.ints ns)/\∀ n ∈ ns,fits n:=by
 have hcs:∃ a len cap,cs=[.slice a len cap]:=by
  rcases open_ints ht he hc hf with ⟨hcs,_⟩ | ⟨a,len,cap,_,hcs,_⟩
  ·exact ⟨_,_,_,hcs⟩
  ·exact ⟨_,_,_,hcs⟩
 obtain ⟨a,len,cap,rfl⟩:=hcs;obtain ⟨A,ns,c,hv,h1,h2,h3,h4⟩:=open_ints_list (v:=.slice a len cap) (d:=x.1) (p:=x.2) ht he hc ⟨_,_,_,rfl⟩ ⟨fuel,by simpa [Value.cells] using hf⟩;exact ⟨A,ns,c,by rw [hv],h1,h2,h3,h4⟩
section
variable {H:Type} {enc:TypeId × Value->H} {W:World} {P:Program} {t e ts ti:TypeId} {f0 f1 f2:Field}
end
end Go.Proofs.YtjcekdiocliddaaGreatDoor

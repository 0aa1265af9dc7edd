/- A []string that came in, as the walk wants it; an argument reads behind the call as before. -/
import Derived.Test.YtljekdpgjaahjaaGreatDoorG11
import Derived.SliceStrings
import Derived.Carry
import Derived.Test.YtljekdpgjaahjaaGreatDoorRTimesP
import Derived.Test.YtljekdpgjaahjaaGreatDoorG1
import Derived.ChangeSlices
import Derived.Test.YtljekdpgjaahjaaGreatDoorG14
import Derived.ChangeSame
namespace Go.Proofs.YtljekdpgjaahjaaGreatDoor
open Go.ChangeShapes Go.WideShapes Go.RowKit Num
set_option linter.unusedVariables false
theorem lt_of_cell {w:World} {b o:Nat} {u:Value} {j:Nat} (h:w.cell? ((⟨b,o,none⟩:Addr).add j)=some u):b<w.heap.size:=by
 rcases Nat.lt_or_ge b w.heap.size with h' | h'
 ·exact h'
 ·rw [add_plain] at h
  unfold World.cell? at h
  simp only at h
  rw [Array.getElem?_eq_none h'] at h
  simp at h
theorem open_strs_list {H:Type} {enc:TypeId × Value→H} {W:World} {P:Program} {t e:TypeId} (ht:P.underlying t=some (.slice e)) (he:P.underlying e=some .string) (hc:P.cellsOf e=1) {v:Value} {d:DataW H} {p:List MemPlace}
  (hv:∃ a len cap,v=.slice a len cap) (h:DataW.Trod enc P W 0 (fun _=>true) true t v d p) :
  ∃ (A:Option Addr) (ls:List Str) (c:Nat),v=.slice A ls.length c∧ls.length≤c∧c≤maxLen∧Cells W A (Go.Proofs.YtljekdpgjaahjaaGreatDoor.strs ls)∧∀ s ∈ ls,s.length≤maxLen:=by
 obtain ⟨a0,len,cap,rfl⟩:=hv
 obtain ⟨fuel,hf⟩:=h
 rcases open_strings ht he hc hf with ⟨hcs,hx⟩ | ⟨a,len',cap',ss,hcs,_,hl,hm,hz,hx,hcell,hsz⟩
 ·simp [Value.cells] at hcs
  obtain ⟨rfl,rfl,rfl⟩:=hcs
  exact ⟨none,[],0,rfl,by simp,by unfold maxLen;omega,Cells.nil _ _,by simp⟩
 ·simp [Value.cells] at hcs
  obtain ⟨rfl,rfl,rfl⟩:=hcs
  simp only [if_true] at hz
  obtain ⟨b,off,spot⟩:=a
  have hlen:(ss.take len).length=len:=by rw [List.length_take];omega
  refine ⟨some ⟨b,off,spot⟩,(ss.take len).map (fun s=>s.data.toList),cap,by rw [List.length_map,hlen],by rw [List.length_map,hlen];exact hl,hm,fun h0=>?_,?_⟩
  ·rw [strs_length,List.length_map,hlen] at h0
   have hspot:spot=none:=by simpa [Addr.add] using World.cell?_spot (hcell 0 (by omega))
   subst hspot
   refine ⟨b,off,rfl,lt_of_cell (hcell 0 (by omega)),fun j u hu=>?_⟩
   have hj:j<len:=by
    have:=(List.getElem?_eq_some_iff.1 hu).1
    rw [strs_length,List.length_map,hlen] at this
    exact this
   have h1:=hcell j (by omega)
   rw [add_plain] at h1
   rw [h1,← hu]
   have hjs:j<ss.length:=by omega
   simp only [Go.Proofs.YtljekdpgjaahjaaGreatDoor.strs,List.getElem?_map,List.getElem?_take_of_lt hj,List.getElem?_eq_getElem hjs,Option.map_some,List.getD_eq_getElem?_getD,Option.getD_some]
   rw [← B_of]
  ·intro s hs
   obtain ⟨x,hx1,rfl⟩:=List.mem_map.1 hs
   have:=hsz x (List.mem_of_mem_take hx1)
   show x.data.toList.length≤maxLen
   rw [Array.length_toList];exact this
theorem arg_stays {H:Type} {enc:TypeId × Value→H} {P:Program} {t:TypeId} (hl:laidOutB P=true) (hr:P.readableRec t=true) (hrow:t<P.types.size) {W W':World} {v:Value} {d:DataW H} {ps:List MemPlace}
  (h:DataW.Trod enc P W 0 (fun _=>true) true t v d ps) (hb:Below W.heap.size W W') (hlt:∀ x ∈ ps,x.block<W.heap.size) {sp:Nat→Bool} (hs:∀ x ∈ ps,sp x.block=true) :
  DataW.Trod enc P W' 0 sp true t v d ps :=
 WideElems.Trod_stays hl hr hrow h (fun x hx=>hb.same (hlt x hx)) hs
theorem open_ints_list {H:Type} {enc:TypeId × Value→H} {W:World} {P:Program} {t e:TypeId} (ht:P.underlying t=some (.slice e)) (he:P.underlying e=some (.int .i64)) (hc:P.cellsOf e=1) {v:Value} {d:DataW H} {p:List MemPlace}
  (hv:∃ a len cap,v=.slice a len cap) (h:DataW.Trod enc P W 0 (fun _=>true) true t v d p) :
  ∃ (A:Option Addr) (ns:List Int) (c:Nat),v=.slice A ns.length c∧ns.length≤c∧c≤maxLen∧Cells W A (Go.Proofs.YtljekdpgjaahjaaGreatDoor.ints ns)∧∀ n ∈ ns,fits n:=by
 obtain ⟨a0,len,cap,rfl⟩:=hv
 obtain ⟨fuel,hf⟩:=h
 rcases open_ints ht he hc hf with ⟨hcs,hx⟩ | ⟨a,len',cap',zs,hcs,_,hl,hm,hz,hx,hcell,hsz⟩
 ·simp [Value.cells] at hcs
  obtain ⟨rfl,rfl,rfl⟩:=hcs
  exact ⟨none,[],0,rfl,by simp,by unfold maxLen;omega,Cells.nil _ _,by simp⟩
 ·simp [Value.cells] at hcs
  obtain ⟨rfl,rfl,rfl⟩:=hcs
  simp only [if_true] at hz
  obtain ⟨b,off,spot⟩:=a
  have hlen:(zs.take len).length=len:=by rw [List.length_take];omega
  refine ⟨some ⟨b,off,spot⟩,zs.take len,cap,by rw [hlen],by rw [hlen];exact hl,hm,fun h0=>?_,?_⟩
  ·rw [ints_length,hlen] at h0
   have hspot:spot=none:=by simpa [Addr.add] using World.cell?_spot (hcell 0 (by omega))
   subst hspot
   refine ⟨b,off,rfl,lt_of_cell (hcell 0 (by omega)),fun j u hu=>?_⟩
   have hj:j<len:=by
    have:=(List.getElem?_eq_some_iff.1 hu).1
    rw [ints_length,hlen] at this
    exact this
   have h1:=hcell j (by omega)
   rw [add_plain] at h1
   rw [h1,← hu]
   have hjs:j<zs.length:=by omega
   simp only [Go.Proofs.YtljekdpgjaahjaaGreatDoor.ints,List.getElem?_map,List.getElem?_take_of_lt hj,List.getElem?_eq_getElem hjs,Option.map_some,List.getD_eq_getElem?_getD,Option.getD_some]
  ·intro n hn
   have h2:=hsz n (List.mem_of_mem_take hn)
   have h3:IntKind.i64.min≤n∧n≤IntKind.i64.max:=by simpa [Lit.wf] using h2
   exact h3
structure RowV where
 A:Option Addr
 c:Nat
 L:RowL
def RowsAt (w:World) (A:Option Addr) (rs:List RowV):Prop :=
 (0<rs.length→∃ b off,A=some ⟨b,off,none⟩∧b<w.heap.size∧∀ i (hi:i<rs.length),
  w.cell? ⟨b,off+i*3,none⟩=some (.slice rs[i].A rs[i].L.coef.length rs[i].c)∧w.cell? ⟨b,off+i*3+1,none⟩=some (.int .i64 rs[i].L.kind)∧w.cell? ⟨b,off+i*3+2,none⟩=some (.int .i64 rs[i].L.right)) ∧
 ∀ r ∈ rs,Cells w r.A (ints r.L.coef)
theorem RowsAt.below {w w':World} {A:Option Addr} {rs:List RowV} (h:RowsAt w A rs) (hb:Below w.heap.size w w'):RowsAt w' A rs:=by
 refine ⟨fun h0=>?_,fun r hr=>(h.2 r hr).below hb⟩
 obtain ⟨b,off,e,hlt,hc⟩:=h.1 h0
 refine ⟨b,off,e,Nat.lt_of_lt_of_le hlt hb.size,fun i hi=>?_⟩
 have:=hc i hi
 exact ⟨(hb.cell (p:=⟨b,off+i*3,none⟩) hlt).trans this.1,(hb.cell (p:=⟨b,off+i*3+1,none⟩) hlt).trans this.2.1,(hb.cell (p:=⟨b,off+i*3+2,none⟩) hlt).trans this.2.2⟩
def RowV.ok (r:RowV):Prop:=r.L.coef.length≤r.c∧r.c≤maxLen∧(∀ n ∈ r.L.coef,fits n)∧fits r.L.kind∧fits r.L.right
theorem list_choose {α:Type} (n:Nat) (Pr:Nat→α→Prop) (h:∀ i,i<n→∃ a,Pr i a):∃ l:List α,l.length=n∧∀ i (hi:i<l.length),Pr i l[i]:=by
 induction n with
 |zero=>exact ⟨[],rfl,fun i hi=>absurd hi (by simp)⟩
 |succ n ih =>
  obtain ⟨l,hl,hp⟩:=ih (fun i hi=>h i (by omega))
  obtain ⟨a,ha⟩:=h n (by omega)
  refine ⟨l ++ [a],by simp [hl],fun i hi=>?_⟩
  by_cases hi2:i<l.length
  ·rw [List.getElem_append_left hi2];exact hp i hi2
  ·have:i=l.length:=by simp at hi;omega
   subst this
   rw [List.getElem_append_right (Nat.le_refl _)]
   simp only [Nat.sub_self,List.getElem_singleton]
   rw [hl];exact ha
theorem wf_fits {n:Int} (h:(Lit.int .i64 n).wf=true):fits n:=by
 have h3:IntKind.i64.min≤n∧n≤IntKind.i64.max:=by simpa [Lit.wf] using h
 exact h3
theorem open_ints_cells {H:Type} {enc:TypeId × Value→H} {W:World} {P:Program} {t e:TypeId} (ht:P.underlying t=some (.slice e)) (he:P.underlying e=some (.int .i64)) (hc:P.cellsOf e=1) {fuel:Nat} {cs:List Value} {x:DataW H × List MemPlace}
  (hf:DataW.trod enc P W 0 (fun _=>true) true fuel t cs=some x) :
  ∃ (A:Option Addr) (ns:List Int) (c:Nat),cs=[.slice A ns.length c]∧ns.length≤c∧c≤maxLen∧Cells W A (Go.Proofs.YtljekdpgjaahjaaGreatDoor.ints ns)∧∀ n ∈ ns,fits n:=by
 have hcs:∃ a len cap,cs=[.slice a len cap]:=by
  rcases open_ints ht he hc hf with ⟨hcs,_⟩ | ⟨a,len,cap,_,hcs,_⟩
  ·exact ⟨_,_,_,hcs⟩
  ·exact ⟨_,_,_,hcs⟩
 obtain ⟨a,len,cap,rfl⟩:=hcs
 obtain ⟨A,ns,c,hv,h1,h2,h3,h4⟩:=open_ints_list (v:=.slice a len cap) (d:=x.1) (p:=x.2) ht he hc ⟨_,_,_,rfl⟩ ⟨fuel,by simpa [Value.cells] using hf⟩
 exact ⟨A,ns,c,by rw [hv],h1,h2,h3,h4⟩
section
variable {H:Type} {enc:TypeId × Value→H} {W:World} {P:Program} {t e ts ti:TypeId} {f0 f1 f2:Field}
theorem open_row (he:P.underlying e=some (.struct #[f0,f1,f2])) (hts:P.underlying ts=some (.slice ti)) (hti:P.underlying ti=some (.int .i64)) (hci:P.cellsOf ti=1) (hcs:P.cellsOf ts=1)
  (t0:f0.type=ts∧f0.offset=0) (t1:f1.type=ti∧f1.offset=1) (t2:f2.type=ti∧f2.offset=2) (hce:P.cellsOf e=3)
  {fuel:Nat} {cs:List Value} {x:DataW H × List MemPlace} (hf:DataW.trod enc P W 0 (fun _=>true) true fuel e cs=some x) :
  ∃ r:RowV,cs=[.slice r.A r.L.coef.length r.c,.int .i64 r.L.kind,.int .i64 r.L.right]∧r.ok∧Cells W r.A (ints r.L.coef):=by
 obtain ⟨xs,n,_,rfl,hl,hlen,hg⟩:=DataW.trod_struct he hf
 rw [hce] at hl
 match cs,hl with
 |[u0,u1,u2],_ =>
  match xs,hlen with
  |[y0,y1,y2],_ =>
   have g0:=hg 0 f0 rfl
   have g1:=hg 1 f1 rfl
   have g2:=hg 2 f2 rfl
   rw [t0.1,t0.2,hcs] at g0
   rw [t1.1,t1.2,hci] at g1
   rw [t2.1,t2.2,hci] at g2
   simp only [List.drop_zero,List.take_succ_cons,List.take_zero,List.drop_succ_cons,List.getElem?_cons_zero,List.getElem?_cons_succ] at g0 g1 g2
   obtain ⟨A,ns,c,e0,h1,h2,h3,h4⟩:=open_ints_cells hts hti hci g0
   obtain ⟨k,e1,_,w1⟩:=DataW.trod_int hti g1
   obtain ⟨r,e2,_,w2⟩:=DataW.trod_int hti g2
   injection e0 with e0 _
   injection e1 with e1 _
   injection e2 with e2 _
   exact ⟨⟨A,c,ns,k,r⟩,by rw [e0,e1,e2],⟨h1,h2,h4,wf_fits w1,wf_fits w2⟩,h3⟩
theorem open_rows (ht:P.underlying t=some (.slice e)) (he:P.underlying e=some (.struct #[f0,f1,f2])) (hts:P.underlying ts=some (.slice ti)) (hti:P.underlying ti=some (.int .i64)) (hci:P.cellsOf ti=1) (hcs:P.cellsOf ts=1)
  (t0:f0.type=ts∧f0.offset=0) (t1:f1.type=ti∧f1.offset=1) (t2:f2.type=ti∧f2.offset=2) (hce:P.cellsOf e=3)
  {fuel:Nat} {cs:List Value} {x:DataW H × List MemPlace} (hf:DataW.trod enc P W 0 (fun _=>true) true fuel t cs=some x) :
  ∃ (A:Option Addr) (rs:List RowV) (c:Nat),cs=[.slice A rs.length c]∧rs.length≤c∧c≤maxLen∧RowsAt W A rs∧∀ r ∈ rs,r.ok:=by
 rcases DataW.trod_slice ht hf with ⟨h1,_⟩ | ⟨a,len,cap,elems,rest,n,_,hc1,_,_,hl,hm,hlen,hel,_,_⟩
 ·exact ⟨none,[],0,h1,by simp,by unfold maxLen;omega,⟨fun h=>absurd h (by simp),fun r hr=>absurd hr (by simp)⟩,fun r hr=>absurd hr (by simp)⟩
 ·rw [hce] at hel
  have key:∀ i,i<len→∃ r:RowV,(∀ j v,[Value.slice r.A r.L.coef.length r.c,.int .i64 r.L.kind,.int .i64 r.L.right][j]? = some v→W.cell? ((a.add (i*3)).add j)=some v)∧r.ok∧Cells W r.A (ints r.L.coef):=by
   intro i hi
   have h1:=hel i hi
   rw [List.getElem?_eq_getElem (show i<elems.length by omega)] at h1
   obtain ⟨us,hu1,hu2⟩:=Option.bind_eq_some_iff.1 h1
   obtain ⟨_,hu3,hu4⟩:=World.cells?_some hu1
   obtain ⟨r,rfl,hr1,hr2⟩:=open_row he hts hti hci hcs t0 t1 t2 hce hu2
   refine ⟨r,fun j v hj=>?_,hr1,hr2⟩
   have hjl:=(List.getElem?_eq_some_iff.1 hj).1
   rw [hu4 j (by simpa using hjl)];exact hj
  obtain ⟨rs,hrl,hrp⟩:=list_choose len _ key
  have hin:∀ r ∈ rs,r.ok∧Cells W r.A (ints r.L.coef):=by
   intro r hr
   obtain ⟨i,hi,rfl⟩:=List.getElem_of_mem hr
   exact (hrp i hi).2
  refine ⟨some a,rs,cap,by rw [hc1,hrl],by omega,hm,⟨fun h0=>?_,fun r hr=>(hin r hr).2⟩,fun r hr=>(hin r hr).1⟩
  obtain ⟨b,off,spot⟩:=a
  have h00:=(hrp 0 h0).1 0 _ rfl
  have hspot:spot=none:=by simpa [Addr.add] using World.cell?_spot h00
  subst hspot
  rw [add_plain,add_plain] at h00
  refine ⟨b,off,rfl,?_,fun i hi=>?_⟩
  ·exact lt_of_cell (u:=.slice rs[0].A rs[0].L.coef.length rs[0].c) (o:=off+0*3) (j:=0) (by rw [add_plain];exact h00)
  ·have h0:=(hrp i hi).1 0 _ rfl
   have h1:=(hrp i hi).1 1 _ rfl
   have h2:=(hrp i hi).1 2 _ rfl
   rw [add_plain,add_plain] at h0 h1 h2
   exact ⟨h0,h1,h2⟩
theorem open_lin {g0 g1:Field} {tl:TypeId} (hl:P.underlying tl=some (.struct #[g0,g1])) (ht:P.underlying t=some (.slice e)) (he:P.underlying e=some (.struct #[f0,f1,f2])) (hts:P.underlying ts=some (.slice ti)) (hti:P.underlying ti=some (.int .i64))
  (k0:g0.type=ts∧g0.offset=0) (k1:g1.type=t∧g1.offset=1) (t0:f0.type=ts∧f0.offset=0) (t1:f1.type=ti∧f1.offset=1) (t2:f2.type=ti∧f2.offset=2)
  (hci:P.cellsOf ti=1) (hcs:P.cellsOf ts=1) (hct:P.cellsOf t=1) (hce:P.cellsOf e=3) (hcl:P.cellsOf tl=2) {v:Value} {d:DataW H} {p:List MemPlace}
  (hv:∃ cs,v=.agg cs∧cs.size=P.cellsOf tl) (h:DataW.Trod enc P W 0 (fun _=>true) true tl v d p) :
  ∃ (A:Option Addr) (cost:List Int) (ca:Nat) (R:Option Addr) (rs:List RowV) (cr:Nat),v=.agg #[.slice A cost.length ca,.slice R rs.length cr]∧cost.length≤ca∧ca≤maxLen∧Cells W A (ints cost)∧(∀ n ∈ cost,fits n) ∧
   rs.length≤cr∧cr≤maxLen∧RowsAt W R rs∧∀ r ∈ rs,r.ok:=by
 obtain ⟨cs,rfl,hsz⟩:=hv
 obtain ⟨fuel,hf⟩:=h
 have hf':DataW.trod enc P W 0 (fun _=>true) true fuel tl cs.toList=some (d,p):=hf
 obtain ⟨xs,n,_,_,hl2,hlen,hg⟩:=DataW.trod_struct hl hf'
 rw [hcl] at hl2
 obtain ⟨l⟩:=cs
 match l,hl2 with
 |[u0,u1],_ =>
  match xs,hlen with
  |[y0,y1],_ =>
   have q0:=hg 0 g0 rfl
   have q1:=hg 1 g1 rfl
   rw [k0.1,k0.2,hcs] at q0
   rw [k1.1,k1.2,hct] at q1
   simp only [List.drop_zero,List.take_succ_cons,List.take_zero,List.drop_succ_cons,List.getElem?_cons_zero,List.getElem?_cons_succ] at q0 q1
   obtain ⟨A,cost,ca,e0,h1,h2,h3,h4⟩:=open_ints_cells hts hti hci q0
   obtain ⟨R,rs,cr,e1,h5,h6,h7,h8⟩:=open_rows ht he hts hti hci hcs t0 t1 t2 hce q1
   injection e0 with e0 _
   injection e1 with e1 _
   exact ⟨A,cost,ca,R,rs,cr,by rw [e0,e1],h1,h2,h3,h4,h5,h6,h7,h8⟩
end
end Go.Proofs.YtljekdpgjaahjaaGreatDoor
namespace Go.Proofs.YtljekdpgjaahjaaGreatDoor
open Num
set_option linter.unusedVariables false
namespace Num
def rowF (n i:Nat) (r:RowL):List (Int × Str):=(if r.coef.length=n then [] else [(2,decI i)]) ++ (if r.kind<1∨3<r.kind then [(8,decI i)] else [])
def headF (p:LinL):List (Int × Str):=(if 8192<p.cost.length then [(4,[])] else []) ++ (if 64<p.rows.length then [(4,[])] else [])
def checkK (p:LinL):Nat→List (Int × Str)
 |0=>headF p
 |k+1=>checkK p k ++ rowF p.cost.length k (rowAt p k)
theorem checkK_nil {p:LinL} {k:Nat} (h:checkK p k=[]):headF p=[]∧∀ i,i<k→rowF p.cost.length i (rowAt p i)=[]:=by
 induction k with
 |zero=>exact ⟨h,fun i hi=>absurd hi (by omega)⟩
 |succ k ih =>
  unfold checkK at h
  obtain ⟨h1,h2⟩:=List.append_eq_nil_iff.1 h
  refine ⟨(ih h1).1,fun i hi=>?_⟩
  by_cases e:i=k
  ·subst e;exact h2
  ·exact (ih h1).2 i (by omega)
theorem check_ok {p:LinL} (h:checkK p p.rows.length=[]):p.cost.length≤8192∧p.rows.length≤64∧∀ r ∈ p.rows,r.coef.length=p.cost.length∧1≤r.kind∧r.kind≤3:=by
 have h1:=checkK_nil h
 have h2:=h1.1
 unfold headF at h2
 obtain ⟨h3,h4⟩:=List.append_eq_nil_iff.1 h2
 refine ⟨?_,?_,?_⟩
 ·split at h3
  ·exact absurd h3 (by simp)
  ·omega
 ·split at h4
  ·exact absurd h4 (by simp)
  ·omega
 ·intro r hr
  obtain ⟨i,hi,rfl⟩:=List.getElem_of_mem hr
  have h5:=h1.2 i hi
  rw [rowAt_eq hi] at h5
  unfold rowF at h5
  obtain ⟨h6,h7⟩:=List.append_eq_nil_iff.1 h5
  refine ⟨?_,?_,?_⟩
  ·split at h6
   ·assumption
   ·exact absurd h6 (by simp)
  ·split at h7
   ·exact absurd h7 (by simp)
   ·omega
  ·split at h7
   ·exact absurd h7 (by simp)
   ·omega
end Num
def fcells (l:List (Int × Str)):List Value:=l.flatMap fun f=>[Value.int .i64 f.1,.string (B f.2)]
theorem fcells_app (a b:List (Int × Str)):fcells (a ++ b)=fcells a ++ fcells b:=by unfold fcells;exact List.flatMap_append
theorem fcells_one (e:Int) (s:Str):fcells [(e,s)]=[.int .i64 e,.string (B s)]:=rfl
theorem fcells_length (l:List (Int × Str)):(fcells l).length=l.length*2:=by
 unfold fcells
 induction l with
 |nil=>rfl
 |cons f l ih=>rw [List.flatMap_cons,List.length_append,ih,List.length_cons,List.length_cons,List.length_cons];simp;omega
theorem fcells_get (l:List (Int × Str)) (i:Nat) (h:i<l.length):(fcells l)[i*2]? = some (.int .i64 l[i].1)∧(fcells l)[i*2+1]? = some (.string (B l[i].2)):=by
 induction l generalizing i with
 |nil=>exact absurd h (by simp)
 |cons f l ih =>
  cases i with
  |zero=>exact ⟨rfl,rfl⟩
  |succ i =>
   have:=ih i (by simpa using h)
   rw [show (i+1)*2=i*2+1+1 by omega]
   exact this
end Go.Proofs.YtljekdpgjaahjaaGreatDoor

/- Plans and proofs as they lie in memory. -/
import Derived.Test.YtjcekdiocliddaaGreatDoorG54
import Derived.Test.YtjcekdiocliddaaGreatDoorG10
import Derived.Test.YtjcekdiocliddaaGreatDoorG14
namespace Go.Proofs.YtjcekdiocliddaaGreatDoor
open Go.RowKit Num Txt Pf
set_option linter.unusedVariables false
theorem flat_get {α} (f:α→List Value) {k:Nat} (hf:∀ x,(f x).length=k) (l:List α):∀ (i:Nat) (hi:i<l.length) (j:Nat),j<k→(l.flatMap f)[i*k+j]? = (f l[i])[j]? := by
 induction l with
 |nil=>intro i hi;exact absurd hi (by simp)
 |cons a l ih =>
  intro i hi j hj
  rw [List.flatMap_cons]
  cases i with
  |zero=>rw [Nat.zero_mul,Nat.zero_add,List.getElem?_append_left (by rw [hf];exact hj)];rfl
  |succ i =>
   rw [List.getElem?_append_right (by rw [hf,Nat.succ_mul];omega),hf,show (i+1)*k+j - k=i*k+j by rw [Nat.succ_mul];omega]
   exact ih i (by simpa using hi) j hj
theorem flat_length {α} (f:α→List Value) {k:Nat} (hf:∀ x,(f x).length=k) (l:List α):(l.flatMap f).length=l.length*k:=by
 induction l with
 |nil=>simp
 |cons a l ih=>rw [List.flatMap_cons,List.length_append,hf,ih,List.length_cons,Nat.succ_mul];omega
theorem flat_snoc {α} (f:α→List Value) (l:List α) (x:α):l.flatMap f ++ f x=(l ++ [x]).flatMap f:=by rw [List.flatMap_append];simp
theorem Cells.elem {α} {f:α→List Value} {k:Nat} (hf:∀ x,(f x).length=k) (hk:0<k) {w:World} {A:Option Addr} {l:List α} (h:Cells w A (l.flatMap f)) {i:Nat} (hi:i<l.length) :
  ∃ b off,A=some ⟨b,off,none⟩∧b<w.heap.size∧∀ j v,(f l[i])[j]? = some v→w.cell? ⟨b,off+i*k+j,none⟩=some v:=by
 obtain ⟨b,off,e,hb,hc⟩:=h (by rw [flat_length f hf];exact Nat.mul_pos (by omega) hk)
 refine ⟨b,off,e,hb,fun j v hv=>?_⟩
 have hj:j<k:=by rw [← hf l[i]];exact (List.getElem?_eq_some_iff.1 hv).1
 rw [Nat.add_assoc]
 exact hc _ _ (by rw [flat_get f hf l i hi j hj];exact hv)
def boolsP (l:List Bool):List Value:=l.map Value.bool
theorem boolsP_get (l:List Bool) (i:Nat) (h:i<l.length):(boolsP l)[i]? = some (.bool l[i]):=by unfold boolsP;rw [List.getElem?_map,List.getElem?_eq_getElem h];rfl
theorem boolsP_snoc (l:List Bool) (x:Bool):boolsP l ++ [.bool x]=boolsP (l ++ [x]):=by simp [boolsP]
def visC (v:Int × Bool):List Value:=[.int .i64 v.1,.bool v.2]
def cutC (c:Int × Int × Int):List Value:=[.int .i64 c.1,.int .i64 c.2.1,.int .i64 c.2.2]
theorem visC_len (v:Int × Bool):(visC v).length=2:=rfl
theorem cutC_len (c:Int × Int × Int):(cutC c).length=3:=rfl
structure RouM where
 A:Option Addr
 ca:Nat
 C:Option Addr
 cc:Nat
 r:RouV
def RouM.cells (m:RouM):List Value:=[.int .i64 m.r.kind,.int .i64 m.r.start,.slice m.A m.r.rests.length m.ca,.slice m.C m.r.vis.length m.cc]
theorem RouM.cells_len (m:RouM):m.cells.length=4:=rfl
structure RouAt (w:World) (m:RouM):Prop where
 rests:Cells w m.A (boolsP m.r.rests)
 vis:Cells w m.C (m.r.vis.flatMap visC)
 rl:m.r.rests.length≤m.ca∧m.ca≤maxLen
 vl:m.r.vis.length≤m.cc∧m.cc≤maxLen
 kind:fits m.r.kind
 start:fits m.r.start
 visF:∀ v ∈ m.r.vis,fits v.1
theorem RouAt.below {w w':World} {m:RouM} (h:RouAt w m) (hb:Below w.heap.size w w'):RouAt w' m:=⟨h.rests.below hb,h.vis.below hb,h.rl,h.vl,h.kind,h.start,h.visF⟩
structure PlanM where
 A:Option Addr
 ca:Nat
 rs:List RouM
 C:Option Addr
 cc:Nat
 us:List Int
def PlanM.cells (m:PlanM):List Value:=[.slice m.A m.rs.length m.ca,.slice m.C m.us.length m.cc]
def PlanM.v (m:PlanM):PlanV:=⟨m.rs.map (·.r),m.us⟩
structure PlanAt (w:World) (m:PlanM):Prop where
 rous:Cells w m.A (m.rs.flatMap RouM.cells)
 each:∀ r ∈ m.rs,RouAt w r
 uns:Cells w m.C (ints m.us)
 rl:m.rs.length≤m.ca∧m.ca≤maxLen
 ul:m.us.length≤m.cc∧m.cc≤maxLen
 unsF:∀ u ∈ m.us,fits u
theorem PlanAt.below {w w':World} {m:PlanM} (h:PlanAt w m) (hb:Below w.heap.size w w'):PlanAt w' m:=⟨h.rous.below hb,fun r hr=>(h.each r hr).below hb,h.uns.below hb,h.rl,h.ul,h.unsF⟩
structure NodeM where
 A:Option Addr
 ca:Nat
 C:Option Addr
 cc:Nat
 n:NodeV
def NodeM.cells (m:NodeM):List Value:=[.bool m.n.leaf,.int .i64 m.n.kind,.slice m.A m.n.cuts.length m.ca,.slice m.C m.n.dual.length m.cc,.int .i64 m.n.ck,.int .i64 m.n.ca,.int .i64 m.n.cb,.int .i64 m.n.cn,.int .i64 m.n.yes,.int .i64 m.n.no]
theorem NodeM.cells_len (m:NodeM):m.cells.length=10:=rfl
structure NodeAt (w:World) (m:NodeM):Prop where
 cuts:Cells w m.A (m.n.cuts.flatMap cutC)
 dual:Cells w m.C (strs m.n.dual)
 cl:m.n.cuts.length≤m.ca∧m.ca≤maxLen
 dl:m.n.dual.length≤m.cc∧m.cc≤maxLen
 dualF:∀ d ∈ m.n.dual,d.length≤maxLen
 kind:fits m.n.kind
 cutsF:∀ c ∈ m.n.cuts,fits c.1∧fits c.2.1∧fits c.2.2
 ck:fits m.n.ck
 ca:fits m.n.ca
 cb:fits m.n.cb
 cn:fits m.n.cn
 yes:fits m.n.yes
 no:fits m.n.no
theorem NodeAt.below {w w':World} {m:NodeM} (h:NodeAt w m) (hb:Below w.heap.size w w'):NodeAt w' m:=⟨h.cuts.below hb,h.dual.below hb,h.cl,h.dl,h.dualF,h.kind,h.cutsF,h.ck,h.ca,h.cb,h.cn,h.yes,h.no⟩
structure ProofM where
 none:Bool
 P:PlanM
 A:Option Addr
 ca:Nat
 ns:List NodeM
def ProofM.cells (m:ProofM):List Value:=[.bool m.none,.slice m.P.A m.P.rs.length m.P.ca,.slice m.P.C m.P.us.length m.P.cc,.slice m.A m.ns.length m.ca]
def ProofM.v (m:ProofM):ProofV:=⟨m.none,m.P.v,m.ns.map (·.n)⟩
structure ProofAt (w:World) (m:ProofM):Prop where
 plan:PlanAt w m.P
 nodes:Cells w m.A (m.ns.flatMap NodeM.cells)
 each:∀ n ∈ m.ns,NodeAt w n
 nl:m.ns.length≤m.ca∧m.ca≤maxLen
theorem ProofAt.below {w w':World} {m:ProofM} (h:ProofAt w m) (hb:Below w.heap.size w w'):ProofAt w' m:=⟨h.plan.below hb,h.nodes.below hb,fun n hn=>(h.each n hn).below hb,h.nl⟩
abbrev rouA (m:RouM):Value:=.agg #[.int .i64 m.r.kind,.int .i64 m.r.start,.slice m.A m.r.rests.length m.ca,.slice m.C m.r.vis.length m.cc]
abbrev planA (m:PlanM):Value:=.agg #[.slice m.A m.rs.length m.ca,.slice m.C m.us.length m.cc]
abbrev nodeA (m:NodeM):Value:=.agg #[.bool m.n.leaf,.int .i64 m.n.kind,.slice m.A m.n.cuts.length m.ca,.slice m.C m.n.dual.length m.cc,.int .i64 m.n.ck,.int .i64 m.n.ca,.int .i64 m.n.cb,.int .i64 m.n.cn,.int .i64 m.n.yes,.int .i64 m.n.no]
abbrev proofA (m:ProofM):Value:=.agg #[.bool m.none,.slice m.P.A m.P.rs.length m.P.ca,.slice m.P.C m.P.us.length m.P.cc,.slice m.A m.ns.length m.ca]
end Go.Proofs.YtjcekdiocliddaaGreatDoor
namespace Go.Proofs.YtjcekdiocliddaaGreatDoor
open Go.ChangeShapes Go.WideShapes Go.RowKit Num Txt Pf
set_option linter.unusedVariables false
section
variable {H:Type} {enc:TypeId × Value→H} {W:World} {P:Program}
theorem flat_bools (ls:List Bool):ls.flatMap (fun b=>[Value.bool b])=boolsP ls:=by
 unfold boolsP
 induction ls with
 |nil=>rfl
 |cons a l ih=>rw [List.flatMap_cons,List.map_cons,ih];rfl
theorem open_flat {ρ:Type} {k:Nat} {f:ρ→List Value} (hf:∀ x,(f x).length=k) (hk:0<k) {t e:TypeId} (ht:P.underlying t=some (.slice e)) (hce:P.cellsOf e=k) (ok:ρ→Prop)
  (hel:∀ {fuel:Nat} {cs:List Value} {x:DataW H × List MemPlace},DataW.trod enc P W 0 (fun _=>true) true fuel e cs=some x→∃ r,cs=f r∧ok r)
  {fuel:Nat} {cs:List Value} {x:DataW H × List MemPlace} (h:DataW.trod enc P W 0 (fun _=>true) true fuel t cs=some x) :
  ∃ (A:Option Addr) (rs:List ρ) (c:Nat),cs=[.slice A rs.length c]∧(rs.length≤c∧c≤maxLen)∧Cells W A (rs.flatMap f)∧∀ r ∈ rs,ok r:=by
 rcases DataW.trod_slice ht h with ⟨h1,_⟩ | ⟨a,len,cap,elems,rest,n,_,hcc,_,_,hl,hm,hlen,hel2,_,_⟩
 ·exact ⟨none,[],0,h1,⟨Nat.le_refl _,by unfold maxLen;omega⟩,Cells.nil _ _,fun r hr=>absurd hr (by simp)⟩
 ·rw [hce] at hel2
  have key:∀ i,i<len→∃ r:ρ,(∀ j v,(f r)[j]? = some v→W.cell? ((a.add (i*k)).add j)=some v)∧ok r:=by
   intro i hi
   have h3:=hel2 i hi
   rw [List.getElem?_eq_getElem (show i<elems.length by omega)] at h3
   obtain ⟨us,hu1,hu2⟩:=Option.bind_eq_some_iff.1 h3
   obtain ⟨_,hu3,hu4⟩:=World.cells?_some hu1
   obtain ⟨r,rfl,hr1⟩:=hel hu2
   refine ⟨r,fun j v hj=>?_,hr1⟩
   have hjl:=(List.getElem?_eq_some_iff.1 hj).1
   rw [hu4 j (by rw [hf] at hjl;exact hjl)];exact hj
  obtain ⟨rs,hrl,hrp⟩:=list_choose len _ key
  refine ⟨some a,rs,cap,by rw [hcc,hrl],⟨by omega,hm⟩,fun h0=>?_,fun r hr=>?_⟩
  ·rw [flat_length f hf] at h0
   have hr0:0<rs.length:=Nat.pos_of_mul_pos_right h0
   obtain ⟨b,off,spot⟩:=a
   have hg0:∃ v,(f rs[0])[0]? = some v:=⟨_,List.getElem?_eq_getElem (by rw [hf];exact hk)⟩
   obtain ⟨v0,hv0⟩:=hg0
   have h00:=(hrp 0 hr0).1 0 v0 hv0
   have hspot:spot=none:=by simpa [Addr.add] using World.cell?_spot h00
   subst hspot
   rw [add_plain,add_plain] at h00
   refine ⟨b,off,rfl,?_,fun j u hu=>?_⟩
   ·exact lt_of_cell (u:=v0) (o:=off+0*k) (j:=0) (by rw [add_plain];exact h00)
   ·have hj:j<rs.length*k:=by rw [← flat_length f hf rs];exact (List.getElem?_eq_some_iff.1 hu).1
    have hi:j / k<rs.length:=Nat.div_lt_of_lt_mul (by rw [Nat.mul_comm];exact hj)
    have hm2:j % k<k:=Nat.mod_lt _ hk
    have he:j / k*k+j % k=j:=by rw [Nat.mul_comm];exact Nat.div_add_mod j k
    rw [← he,flat_get f hf rs _ hi _ hm2] at hu
    have h3:=(hrp _ hi).1 _ u hu
    rw [add_plain,add_plain] at h3
    rw [← he,← Nat.add_assoc];exact h3
  ·obtain ⟨i,hi,rfl⟩:=List.getElem_of_mem hr
   exact (hrp i hi).2
theorem open_strsP {t e:TypeId} (ht:P.underlying t=some (.slice e)) (he:P.underlying e=some .string) (hc:P.cellsOf e=1) {fuel:Nat} {cs:List Value} {x:DataW H × List MemPlace}
  (hf:DataW.trod enc P W 0 (fun _=>true) true fuel t cs=some x) :
  ∃ (A:Option Addr) (ls:List Str) (c:Nat),cs=[.slice A ls.length c]∧(ls.length≤c∧c≤maxLen)∧Cells W A (Go.Proofs.YtjcekdiocliddaaGreatDoor.strs ls)∧∀ s ∈ ls,s.length≤maxLen:=by
 have hcs:∃ a len cap,cs=[.slice a len cap]:=by
  rcases open_strings ht he hc hf with ⟨hcs,_⟩ | ⟨a,len,cap,_,hcs,_⟩
  ·exact ⟨_,_,_,hcs⟩
  ·exact ⟨_,_,_,hcs⟩
 obtain ⟨a,len,cap,rfl⟩:=hcs
 obtain ⟨A,ns,c,hv,h1,h2,h3,h4⟩:=open_strs_list (v:=.slice a len cap) (d:=x.1) (p:=x.2) ht he hc ⟨_,_,_,rfl⟩ ⟨fuel,by simpa [Value.cells] using hf⟩
 exact ⟨A,ns,c,by rw [hv],⟨h1,h2⟩,h3,h4⟩
variable {tb ti ts:TypeId}
theorem open_boolsP {t:TypeId} (ht:P.underlying t=some (.slice tb)) (htb:P.underlying tb=some .bool) (hcb:P.cellsOf tb=1) {fuel:Nat} {cs:List Value} {x:DataW H × List MemPlace}
  (hf:DataW.trod enc P W 0 (fun _=>true) true fuel t cs=some x) :
  ∃ (A:Option Addr) (ls:List Bool) (c:Nat),cs=[.slice A ls.length c]∧(ls.length≤c∧c≤maxLen)∧Cells W A (boolsP ls):=by
 obtain ⟨A,ls,c,h1,h2,h3,_⟩:=open_flat (f:=fun b:Bool=>[Value.bool b]) (k:=1) (fun _=>rfl) (by decide) ht hcb (fun _=>True) (fun h=>by
  obtain ⟨b,e,_⟩:=DataW.trod_bool htb h
  exact ⟨b,e,trivial⟩) hf
 refine ⟨A,ls,c,h1,h2,?_⟩
 have e:=flat_bools ls
 rw [← e];exact h3
variable {tv:TypeId} {f0 f1 f2 f3 f4 f5 f6:Field}
theorem open_visP (hv:P.underlying tv=some (.struct #[f0,f1])) (hti:P.underlying ti=some (.int .i64)) (htb:P.underlying tb=some .bool) (hci:P.cellsOf ti=1) (hcb:P.cellsOf tb=1) (hcv:P.cellsOf tv=2)
  (t0:f0.type=ti∧f0.offset=0) (t1:f1.type=tb∧f1.offset=1) {fuel:Nat} {cs:List Value} {x:DataW H × List MemPlace} (hf:DataW.trod enc P W 0 (fun _=>true) true fuel tv cs=some x) :
  ∃ v:Int × Bool,cs=visC v∧fits v.1:=by
 obtain ⟨xs,n,_,rfl,hl,hlen,hg⟩:=DataW.trod_struct hv hf
 rw [hcv] at hl
 match cs,hl with
 |[u0,u1],_ =>
  match xs,hlen with
  |[y0,y1],_ =>
   have q0:=hg 0 f0 rfl
   have q1:=hg 1 f1 rfl
   rw [t0.1,t0.2,hci] at q0
   rw [t1.1,t1.2,hcb] at q1
   simp only [List.drop_zero,List.take_succ_cons,List.take_zero,List.drop_succ_cons,List.getElem?_cons_zero,List.getElem?_cons_succ] at q0 q1
   obtain ⟨a,e0,_,w0⟩:=DataW.trod_int hti q0
   obtain ⟨b,e1,_⟩:=DataW.trod_bool htb q1
   injection e0 with e0 _
   injection e1 with e1 _
   exact ⟨(a,b),by rw [e0,e1];rfl,wf_fits w0⟩
theorem open_cutP (hv:P.underlying tv=some (.struct #[f0,f1,f2])) (hti:P.underlying ti=some (.int .i64)) (hci:P.cellsOf ti=1) (hcv:P.cellsOf tv=3)
  (t0:f0.type=ti∧f0.offset=0) (t1:f1.type=ti∧f1.offset=1) (t2:f2.type=ti∧f2.offset=2) {fuel:Nat} {cs:List Value} {x:DataW H × List MemPlace} (hf:DataW.trod enc P W 0 (fun _=>true) true fuel tv cs=some x) :
  ∃ v:Int × Int × Int,cs=cutC v∧fits v.1∧fits v.2.1∧fits v.2.2:=by
 obtain ⟨xs,n,_,rfl,hl,hlen,hg⟩:=DataW.trod_struct hv hf
 rw [hcv] at hl
 match cs,hl with
 |[u0,u1,u2],_ =>
  match xs,hlen with
  |[y0,y1,y2],_ =>
   have q0:=hg 0 f0 rfl
   have q1:=hg 1 f1 rfl
   have q2:=hg 2 f2 rfl
   rw [t0.1,t0.2,hci] at q0
   rw [t1.1,t1.2,hci] at q1
   rw [t2.1,t2.2,hci] at q2
   simp only [List.drop_zero,List.take_succ_cons,List.take_zero,List.drop_succ_cons,List.getElem?_cons_zero,List.getElem?_cons_succ] at q0 q1 q2
   obtain ⟨a,e0,_,w0⟩:=DataW.trod_int hti q0
   obtain ⟨b,e1,_,w1⟩:=DataW.trod_int hti q1
   obtain ⟨c,e2,_,w2⟩:=DataW.trod_int hti q2
   injection e0 with e0 _
   injection e1 with e1 _
   injection e2 with e2 _
   exact ⟨(a,b,c),by rw [e0,e1,e2];rfl,wf_fits w0,wf_fits w1,wf_fits w2⟩
structure ProofTys (P:Program) (tI tB tS tBs tIs tV tVs tR tRs tP tC tCs tQ tQs tD tN tNs tF:TypeId):Prop where
 i:P.underlying tI=some (.int .i64)
 b:P.underlying tB=some .bool
 q:P.underlying tQ=some .string
 bs:P.underlying tBs=some (.slice tB)
 is:P.underlying tIs=some (.slice tI)
 vs:P.underlying tVs=some (.slice tV)
 rs:P.underlying tRs=some (.slice tR)
 cs:P.underlying tCs=some (.slice tC)
 qs:P.underlying tQs=some (.slice tQ)
 ns:P.underlying tNs=some (.slice tN)
 v:∃ f0 f1:Field,P.underlying tV=some (.struct #[f0,f1])∧(f0.type=tI∧f0.offset=0)∧(f1.type=tB∧f1.offset=1)
 c:∃ f0 f1 f2:Field,P.underlying tC=some (.struct #[f0,f1,f2])∧(f0.type=tI∧f0.offset=0)∧(f1.type=tI∧f1.offset=1)∧(f2.type=tI∧f2.offset=2)
 r:∃ f0 f1 f2 f3:Field,P.underlying tR=some (.struct #[f0,f1,f2,f3])∧(f0.type=tI∧f0.offset=0)∧(f1.type=tI∧f1.offset=1)∧(f2.type=tBs∧f2.offset=2)∧(f3.type=tVs∧f3.offset=3)
 p:∃ f0 f1:Field,P.underlying tP=some (.struct #[f0,f1])∧(f0.type=tRs∧f0.offset=0)∧(f1.type=tIs∧f1.offset=1)
 d:∃ f0 f1 f2 f3:Field,P.underlying tD=some (.struct #[f0,f1,f2,f3])∧(f0.type=tI∧f0.offset=0)∧(f1.type=tI∧f1.offset=1)∧(f2.type=tI∧f2.offset=2)∧(f3.type=tI∧f3.offset=3)
 n:∃ f0 f1 f2 f3 f4 f5 f6:Field,P.underlying tN=some (.struct #[f0,f1,f2,f3,f4,f5,f6])∧(f0.type=tB∧f0.offset=0)∧(f1.type=tI∧f1.offset=1)∧(f2.type=tCs∧f2.offset=2)∧(f3.type=tQs∧f3.offset=3)∧(f4.type=tD∧f4.offset=4)∧(f5.type=tI∧f5.offset=8)∧(f6.type=tI∧f6.offset=9)
 f:∃ f0 f1 f2:Field,P.underlying tF=some (.struct #[f0,f1,f2])∧(f0.type=tB∧f0.offset=0)∧(f1.type=tP∧f1.offset=1)∧(f2.type=tNs∧f2.offset=3)
 cells:(P.cellsOf tI=1∧P.cellsOf tB=1∧P.cellsOf tQ=1∧P.cellsOf tBs=1∧P.cellsOf tIs=1∧P.cellsOf tVs=1∧P.cellsOf tRs=1∧P.cellsOf tCs=1∧P.cellsOf tQs=1∧P.cellsOf tNs=1)∧P.cellsOf tV=2∧P.cellsOf tC=3∧P.cellsOf tR=4∧P.cellsOf tP=2∧P.cellsOf tD=4∧P.cellsOf tN=10∧P.cellsOf tF=4
section
variable {tI tB tS tBs tIs tV tVs tR tRs tP tC tCs tQ tQs tD tN tNs tF:TypeId}
theorem open_rouP (T:ProofTys P tI tB tS tBs tIs tV tVs tR tRs tP tC tCs tQ tQs tD tN tNs tF) {fuel:Nat} {cs:List Value} {x:DataW H × List MemPlace} (hf:DataW.trod enc P W 0 (fun _=>true) true fuel tR cs=some x) :
  ∃ m:RouM,cs=m.cells∧RouAt W m:=by
 obtain ⟨f0,f1,f2,f3,hr,t0,t1,t2,t3⟩:=T.r
 obtain ⟨g0,g1,hv,s0,s1⟩:=T.v
 obtain ⟨⟨ci,cb,cq,cbs,cis,cvs,crs,ccs,cqs,cns⟩,cv,cc,cr,cp,cd,cn,cf⟩:=T.cells
 obtain ⟨xs,n,_,rfl,hl,hlen,hg⟩:=DataW.trod_struct hr hf
 rw [cr] at hl
 match cs,hl with
 |[u0,u1,u2,u3],_ =>
  match xs,hlen with
  |[y0,y1,y2,y3],_ =>
   have q0:=hg 0 f0 rfl
   have q1:=hg 1 f1 rfl
   have q2:=hg 2 f2 rfl
   have q3:=hg 3 f3 rfl
   rw [t0.1,t0.2,ci] at q0
   rw [t1.1,t1.2,ci] at q1
   rw [t2.1,t2.2,cbs] at q2
   rw [t3.1,t3.2,cvs] at q3
   simp only [List.drop_zero,List.take_succ_cons,List.take_zero,List.drop_succ_cons,List.getElem?_cons_zero,List.getElem?_cons_succ] at q0 q1 q2 q3
   obtain ⟨a,e0,_,w0⟩:=DataW.trod_int T.i q0
   obtain ⟨b,e1,_,w1⟩:=DataW.trod_int T.i q1
   obtain ⟨A,ls,c,e2,h1,h2⟩:=open_boolsP T.bs T.b cb q2
   obtain ⟨A2,vs,c2,e3,h3,h4,h5⟩:=open_flat (f:=visC) (k:=2) visC_len (by decide) T.vs cv (fun v=>fits v.1) (fun h=>open_visP hv T.i T.b ci cb cv s0 s1 h) q3
   injection e0 with e0 _
   injection e1 with e1 _
   injection e2 with e2 _
   injection e3 with e3 _
   exact ⟨⟨A,c,A2,c2,⟨a,b,ls,vs⟩⟩,by rw [e0,e1,e2,e3];rfl,⟨h2,h4,h1,h3,wf_fits w0,wf_fits w1,h5⟩⟩
theorem open_planP (T:ProofTys P tI tB tS tBs tIs tV tVs tR tRs tP tC tCs tQ tQs tD tN tNs tF) {fuel:Nat} {cs:List Value} {x:DataW H × List MemPlace} (hf:DataW.trod enc P W 0 (fun _=>true) true fuel tP cs=some x) :
  ∃ m:PlanM,cs=m.cells∧PlanAt W m:=by
 obtain ⟨f0,f1,hp,t0,t1⟩:=T.p
 obtain ⟨⟨ci,cb,cq,cbs,cis,cvs,crs,ccs,cqs,cns⟩,cv,cc,cr,cp,cd,cn,cf⟩:=T.cells
 obtain ⟨xs,n,_,rfl,hl,hlen,hg⟩:=DataW.trod_struct hp hf
 rw [cp] at hl
 match cs,hl with
 |[u0,u1],_ =>
  match xs,hlen with
  |[y0,y1],_ =>
   have q0:=hg 0 f0 rfl
   have q1:=hg 1 f1 rfl
   rw [t0.1,t0.2,crs] at q0
   rw [t1.1,t1.2,cis] at q1
   simp only [List.drop_zero,List.take_succ_cons,List.take_zero,List.drop_succ_cons,List.getElem?_cons_zero,List.getElem?_cons_succ] at q0 q1
   obtain ⟨A,rs,c,e0,h1,h2,h3⟩:=open_flat (f:=RouM.cells) (k:=4) RouM.cells_len (by decide) T.rs cr (fun m=>RouAt W m) (fun h=>open_rouP T h) q0
   obtain ⟨A2,us,c2,e1,h4,h5,h6,h7⟩:=open_ints_cells T.is T.i ci q1
   injection e0 with e0 _
   injection e1 with e1 _
   exact ⟨⟨A,c,rs,A2,c2,us⟩,by rw [e0,e1];rfl,⟨h2,h3,h6,h1,⟨h4,h5⟩,h7⟩⟩
theorem open_nodeP (T:ProofTys P tI tB tS tBs tIs tV tVs tR tRs tP tC tCs tQ tQs tD tN tNs tF) {fuel:Nat} {cs:List Value} {x:DataW H × List MemPlace} (hf:DataW.trod enc P W 0 (fun _=>true) true fuel tN cs=some x) :
  ∃ m:NodeM,cs=m.cells∧NodeAt W m:=by
 obtain ⟨f0,f1,f2,f3,f4,f5,f6,hn,t0,t1,t2,t3,t4,t5,t6⟩:=T.n
 obtain ⟨d0,d1,d2,d3,hd,s0,s1,s2,s3⟩:=T.d
 obtain ⟨c0,c1,c2,hc,r0,r1,r2⟩:=T.c
 obtain ⟨⟨ci,cb,cq,cbs,cis,cvs,crs,ccs,cqs,cns⟩,cv,cc,cr,cp,cd,cn,cf⟩:=T.cells
 obtain ⟨xs,n,_,rfl,hl,hlen,hg⟩:=DataW.trod_struct hn hf
 rw [cn] at hl
 match cs,hl with
 |[u0,u1,u2,u3,u4,u5,u6,u7,u8,u9],_ =>
  match xs,hlen with
  |[y0,y1,y2,y3,y4,y5,y6],_ =>
   have q0:=hg 0 f0 rfl
   have q1:=hg 1 f1 rfl
   have q2:=hg 2 f2 rfl
   have q3:=hg 3 f3 rfl
   have q4:=hg 4 f4 rfl
   have q5:=hg 5 f5 rfl
   have q6:=hg 6 f6 rfl
   rw [t0.1,t0.2,cb] at q0
   rw [t1.1,t1.2,ci] at q1
   rw [t2.1,t2.2,ccs] at q2
   rw [t3.1,t3.2,cqs] at q3
   rw [t4.1,t4.2,cd] at q4
   rw [t5.1,t5.2,ci] at q5
   rw [t6.1,t6.2,ci] at q6
   simp only [List.drop_zero,List.take_succ_cons,List.take_zero,List.drop_succ_cons,List.getElem?_cons_zero,List.getElem?_cons_succ] at q0 q1 q2 q3 q4 q5 q6
   obtain ⟨b,e0,_⟩:=DataW.trod_bool T.b q0
   obtain ⟨k,e1,_,w1⟩:=DataW.trod_int T.i q1
   obtain ⟨A,cl,c,e2,h1,h2,h3⟩:=open_flat (f:=cutC) (k:=3) cutC_len (by decide) T.cs cc (fun v=>fits v.1∧fits v.2.1∧fits v.2.2) (fun h=>open_cutP hc T.i ci cc r0 r1 r2 h) q2
   obtain ⟨A2,dl,c2',e3,h4,h5,h6⟩:=open_strsP T.qs T.q cq q3
   obtain ⟨y,e5,_,w5⟩:=DataW.trod_int T.i q5
   obtain ⟨z,e6,_,w6⟩:=DataW.trod_int T.i q6
   obtain ⟨ds,m,_,_,hl4,hlen4,hg4⟩:=DataW.trod_struct hd q4
   match ds,hlen4 with
   |[z0,z1,z2,z3],_ =>
    have p0:=hg4 0 d0 rfl
    have p1:=hg4 1 d1 rfl
    have p2:=hg4 2 d2 rfl
    have p3:=hg4 3 d3 rfl
    rw [s0.1,s0.2,ci] at p0
    rw [s1.1,s1.2,ci] at p1
    rw [s2.1,s2.2,ci] at p2
    rw [s3.1,s3.2,ci] at p3
    simp only [List.drop_zero,List.take_succ_cons,List.take_zero,List.drop_succ_cons,List.getElem?_cons_zero,List.getElem?_cons_succ] at p0 p1 p2 p3
    obtain ⟨a0,v0,_,x0⟩:=DataW.trod_int T.i p0
    obtain ⟨a1,v1,_,x1⟩:=DataW.trod_int T.i p1
    obtain ⟨a2,v2,_,x2⟩:=DataW.trod_int T.i p2
    obtain ⟨a3,v3,_,x3⟩:=DataW.trod_int T.i p3
    injection e0 with e0 _
    injection e1 with e1 _
    injection e2 with e2 _
    injection e3 with e3 _
    injection e5 with e5 _
    injection e6 with e6 _
    injection v0 with v0 _
    injection v1 with v1 _
    injection v2 with v2 _
    injection v3 with v3 _
    exact ⟨⟨A,c,A2,c2',⟨b,k,cl,dl,a0,a1,a2,a3,y,z⟩⟩,by rw [e0,e1,e2,e3,v0,v1,v2,v3,e5,e6];rfl,⟨h2,h5,h1,h4,h6,wf_fits w1,h3,wf_fits x0,wf_fits x1,wf_fits x2,wf_fits x3,wf_fits w5,wf_fits w6⟩⟩
theorem open_proofP (T:ProofTys P tI tB tS tBs tIs tV tVs tR tRs tP tC tCs tQ tQs tD tN tNs tF) {v:Value} {d:DataW H} {p:List MemPlace} (hv:∃ cs,v=.agg cs∧cs.size=P.cellsOf tF) (h:DataW.Trod enc P W 0 (fun _=>true) true tF v d p) :
  ∃ m:ProofM,v=proofA m∧ProofAt W m:=by
 obtain ⟨cs,rfl,hsz⟩:=hv
 obtain ⟨fuel,hf⟩:=h
 have hf':DataW.trod enc P W 0 (fun _=>true) true fuel tF cs.toList=some (d,p):=hf
 obtain ⟨f0,f1,f2,hF,t0,t1,t2⟩:=T.f
 obtain ⟨⟨ci,cb,cq,cbs,cis,cvs,crs,ccs,cqs,cns⟩,cv,cc,cr,cp,cd,cn,cf⟩:=T.cells
 obtain ⟨xs,n,_,_,hl2,hlen,hg⟩:=DataW.trod_struct hF hf'
 rw [cf] at hl2
 obtain ⟨l⟩:=cs
 match l,hl2 with
 |[u0,u1,u2,u3],_ =>
  match xs,hlen with
  |[y0,y1,y2],_ =>
   have q0:=hg 0 f0 rfl
   have q1:=hg 1 f1 rfl
   have q2:=hg 2 f2 rfl
   rw [t0.1,t0.2,cb] at q0
   rw [t1.1,t1.2,cp] at q1
   rw [t2.1,t2.2,cns] at q2
   simp only [List.drop_zero,List.take_succ_cons,List.take_zero,List.drop_succ_cons,List.getElem?_cons_zero,List.getElem?_cons_succ] at q0 q1 q2
   obtain ⟨b,e0,_⟩:=DataW.trod_bool T.b q0
   obtain ⟨m,e1,h1⟩:=open_planP T q1
   obtain ⟨A,ns,c,e2,h2,h3,h4⟩:=open_flat (f:=NodeM.cells) (k:=10) NodeM.cells_len (by decide) T.ns cn (fun m=>NodeAt W m) (fun h=>open_nodeP T h) q2
   injection e0 with e0 _
   injection e1 with e1 e1'
   injection e1' with e1' _
   injection e2 with e2 _
   exact ⟨⟨b,m,A,c,ns⟩,by rw [e0,e1,e1',e2],⟨h1,h3,h4,h2⟩⟩
end
end
end Go.Proofs.YtjcekdiocliddaaGreatDoor
namespace Go.Proofs.YtjcekdiocliddaaGreatDoor
open Go.RowKit Num Txt Pf
set_option linter.unusedVariables false
theorem lt_heap {w:World} {b:Nat} {o:Obj} (h:w.heap[b]? = some o):b<w.heap.size:=by
 rcases Nat.lt_or_ge b w.heap.size with h' | h'
 ·exact h'
 ·rw [Array.getElem?_eq_none h'] at h;cases h
theorem below_lift {w0 w1 w2:World} (h1:Below w0.heap.size w0 w1) (h2:Below w1.heap.size w1 w2):Below w0.heap.size w0 w2:=h1.trans (h2.mono h1.size)
theorem new_at (w:World) (o:Obj):Below w.heap.size w (w.alloc o)∧(w.alloc o).heap[w.heap.size]? = some o:=⟨(Below.refl _ _).alloc (Nat.le_refl _) _,by show (w.heap.push o)[w.heap.size]? = some o;simp⟩
theorem row_keep {w w':World} {g:Nat} {o:Obj} (h:w.heap[g]? = some o) (hb:Below w.heap.size w w'):w'.heap[g]? = some o:=by rw [hb.block g (lt_heap h)];exact h
def KpA (A:Option Addr) (w w':World):Prop:=w.heap.size≤w'.heap.size∧∀ k,k<w.heap.size→(∀ off sp,A≠some ⟨k,off,sp⟩)→w'.heap[k]? = w.heap[k]?
structure KpB (g:Nat) (w w':World):Prop where
 size:w.heap.size≤w'.heap.size
 block:∀ k,k<w.heap.size→k≠g→w'.heap[k]? = w.heap[k]?
 strm:w'.os=w.os∧w'.tape=w.tape∧w'.output=w.output
theorem KpB.refl (g:Nat) (w:World):KpB g w w:=⟨Nat.le_refl _,fun _ _ _=>rfl,rfl,rfl,rfl⟩
theorem KpB.below {g:Nat} {w w1 w2:World} (k:KpB g w w1) (hb:Below w1.heap.size w1 w2):KpB g w w2 :=
 ⟨Nat.le_trans k.1 hb.size,fun b h1 h2=>(hb.block b (Nat.lt_of_lt_of_le h1 k.1)).trans (k.2 b h1 h2),hb.os.trans k.strm.1,hb.tape.trans k.strm.2.1,hb.output.trans k.strm.2.2⟩
theorem KpB.store {g:Nat} {w w1:World} (k:KpB g w w1) (j:Nat) (u:Value):KpB g w (w1.setCell ⟨g,j,none⟩ u) :=
 ⟨by rw [World.size_setCell];exact k.1,fun b h1 h2=>by rw [Below.heap_setCell _ _ _ _ h2];exact k.2 b h1 h2,k.strm⟩
theorem KpB.trans {g:Nat} {w w1 w2:World} (k:KpB g w w1) (k2:KpB g w1 w2):KpB g w w2 :=
 ⟨Nat.le_trans k.1 k2.1,fun b h1 h2=>(k2.2 b (Nat.lt_of_lt_of_le h1 k.1) h2).trans (k.2 b h1 h2),k2.strm.1.trans k.strm.1,k2.strm.2.1.trans k.strm.2.1,k2.strm.2.2.trans k.strm.2.2⟩
theorem KpB.of_below {g:Nat} {w w':World} (hb:Below w.heap.size w w'):KpB g w w':=(KpB.refl g w).below hb
theorem KpB.row {g b:Nat} {w w':World} {o:Obj} (k:KpB g w w') (h:w.heap[b]? = some o) (hne:b≠g):w'.heap[b]? = some o:=(k.2 b (lt_heap h) hne).trans h
theorem heap_put {w:World} {g i:Nat} {v:Value} {l:Array Value} {e:TypeId} {z:Nat × Nat} (h:w.heap[g]? = some (.cells l e z)):(w.setCell ⟨g,i,none⟩ v).heap[g]? = some (.cells (l.setIfInBounds i v) e z):=by
 unfold World.setCell
 show (w.heap.modify g _)[g]? = _
 rw [Array.getElem?_modify,if_pos rfl,h]
 rfl
section
variable {w w':World} {Bs Bs' sz sz' n n' c c' g:Nat} {e e':TypeId} {A X:Option Addr} {xs ys:List Value} {l:Array Value} {z:Nat × Nat}
theorem OwnR.typ (h:OwnR w Bs e sz (some ⟨g,0,none⟩) n c xs):Bs≤g∧g<w.heap.size∧∃ cur,w.heap[g]? = some (.cells cur e (0,0)):=by
 rcases h.2 with ⟨hv,_⟩ | ⟨g',cap,cur,hv,hb,hh,_⟩
 ·injection hv with hv _ _;cases hv
 ·injection hv with hv _ _
  injection hv with hv
  injection hv with hv _ _
  subst hv
  exact ⟨hb,lt_heap hh,cur,hh⟩
theorem OwnR.form (h:OwnR w Bs e sz A n c xs):A=none∨∃ g,A=some ⟨g,0,none⟩:=by
 rcases h.2 with ⟨hv,_⟩ | ⟨g',cap,cur,hv,_⟩
 ·injection hv with hv _ _;exact .inl hv
 ·injection hv with hv _ _;exact .inr ⟨g',hv⟩
theorem OwnR.keep (h:OwnR w Bs e sz A n c xs) (hk:∀ b,A=some ⟨b,0,none⟩→w'.heap[b]? = w.heap[b]?):OwnR w' Bs e sz A n c xs:=by
 refine ⟨h.1,?_⟩
 rcases h.2 with h2 | ⟨g',cap,cur,hv,hgb,hh,r⟩
 ·exact .inl h2
 ·refine .inr ⟨g',cap,cur,hv,hgb,?_,r⟩
  injection hv with hA _ _
  rw [hk g' hA];exact hh
theorem OwnR.not (h:OwnR w Bs e sz A n c xs) (hg:w.heap[g]? = some (.cells l e' z)) (he:e≠e'):A≠some ⟨g,0,none⟩:=by
 intro hA
 subst hA
 obtain ⟨_,_,cur,h3⟩:=h.typ
 rw [hg] at h3
 injection h3 with h3
 injection h3 with _ h3 _
 exact he h3.symm
theorem OwnR.keptB (h:OwnR w Bs e sz A n c xs) (hk:KpB g w w') (hg:w.heap[g]? = some (.cells l e' z)) (he:e≠e'):OwnR w' Bs e sz A n c xs :=
 h.keep fun b hb=>hk.2 b (by subst hb;exact h.typ.2.1) (fun e=>h.not hg he (by rw [hb,e]))
theorem OwnR.keptA (h:OwnR w Bs e sz A n c xs) (hk:KpA X w w') (hX:OwnR w Bs' e' sz' X n' c' ys) (he:e≠e'):OwnR w' Bs e sz A n c xs :=
 h.keep fun b hb=>hk.2 b (by subst hb;exact h.typ.2.1) fun off sp hx=>by
  rcases hX.form with hf | ⟨g',hf⟩
  ·rw [hf] at hx;cases hx
  ·have:g'=b:=by rw [hf] at hx;injection hx with hx;injection hx with hx _ _
   subst this
   subst hf
   obtain ⟨_,_,cur,h3⟩:=hX.typ
   exact h.not h3 he hb
theorem OwnR.cells (h:OwnR w Bs e sz A n c xs):Cells w A xs:=by
 intro h0
 by_cases hn:n=0
 ·have:=h.len;rw [hn,Nat.zero_mul] at this;omega
 ·obtain ⟨g,hA,_,hg,hc,_⟩:=h.at_ (by omega)
  refine ⟨g,0,hA,hg,fun j u hu=>?_⟩
  have hj:j<xs.length:=(List.getElem?_eq_some_iff.1 hu).1
  rw [Nat.zero_add,hc j (by rw [← h.len];exact hj),hu]
theorem KpA.row {b:Nat} {o:Obj} (k:KpA X w w') (h:w.heap[b]? = some o) (hne:∀ off sp,X≠some ⟨b,off,sp⟩):w'.heap[b]? = some o:=(k.2 b (lt_heap h) hne).trans h
theorem OwnR.far (h:OwnR w Bs e sz A n c xs) (hg:w.heap[g]? = some (.cells l e' z)) (he:e≠e'):∀ off sp,A≠some ⟨g,off,sp⟩:=fun off sp hA=>by
 rcases h.form with hf | ⟨g',hf⟩
 ·rw [hf] at hA;cases hA
 ·have h1:=hf
  rw [hA] at h1
  injection h1 with h1;injection h1 with h1 h2 h3
  exact h.not hg he (by rw [hA,h2,h3])
end
section
variable {P:Program} {ops:Array Oper} {rest:List Oper} {o:Oper} {a:Act} {Q:Exit→Act→World→Prop}
theorem wp_appk {t e:TypeId} {z:Value} {sz bytes:Nat} (he:ElemR P t e z sz bytes) (hgd:o.guard=none) (s x:Operand) (ho:o.op=.call { callee:=.builtin .append,args:=#[s,x],argTypes:=#[t,t] })
  (Bs:Nat) (A:Option Addr) (n c:Nat) (xs:List Value) (w:World) (us:Array Value) (hs:a.eval s=.slice A n c) (hown:OwnR w Bs e sz A n c xs)
  (hx:a.eval x=.slice (some ⟨w.heap.size,0,none⟩) 1 1) (hus:us.size=sz) (h1:∀ u ∈ us.toList,u.oneCell'=true) (h63:n+1≤maxLen) (hby:(n+1)*bytes≤140737488355328) (hbase:Bs≤w.heap.size)
  (h:∀ A' c' w',OwnR w' Bs e sz A' (n+1) c' (xs ++ us.toList)→Below Bs w w'→KpA A w w'→wpList P ops Q rest (a.put o.dst (.slice A' (n+1) c')) w') :
  wpList P ops Q (o :: rest) a (w.alloc (.cells us e)):=by
 obtain ⟨ht,⟨i,hi,hz,hsz,hb⟩,hzs,hpos⟩:=he
 have hown':(w.alloc (.cells us e)).ownsRow Bs e sz (.slice A n c) n xs:=hown.alloc _
 refine wpList_append_own _ hgd s x t ho Bs e i z sz bytes ht hi hz hsz hb hzs hpos _ n xs hs hown' ⟨w.heap.size,0,none⟩ 1 1 us.toList hx (by rw [Array.length_toList,hus];omega) ?_ h1 h63 hby (by simp;omega) ?_
 ·intro j v hj
  rw [Array.getElem?_toList] at hj
  have hjl:j<us.size:=(Array.getElem?_eq_some_iff.1 hj).1
  unfold Addr.add
  by_cases h0:j=0
  ·subst h0;rw [if_pos rfl,World.cell?_alloc_new];exact hj
  ·rw [if_neg h0];show (w.alloc _).cell? ⟨w.heap.size,0+j,none⟩=_;rw [Nat.zero_add,World.cell?_alloc_new];exact hj
 ·intro v' w' h2 h3 h4
  have hne:v'≠.slice none 0 0:=by intro e;have:=(h4.1 e).2;omega
  obtain ⟨g,cap,hv⟩:∃ g cap,v'=.slice (some ⟨g,0,none⟩) (n+1) cap:=by
   rcases h2.2 with ⟨hv,_⟩ | ⟨g,cap,cur,hv,_⟩
   ·exact absurd hv hne
   ·exact ⟨g,cap,hv⟩
  subst hv
  refine h _ _ _ h2 ?_ ⟨?_,?_⟩
  ·refine ((Below.refl _ _).alloc hbase _).grown h3 (by simp;omega) ?_
   intro k hk
   rcases hown.2 with ⟨hv,_⟩ | ⟨g',cap',cur',hv,hg',_⟩
   ·rw [hv] at hk;simp [Value.ownBlock] at hk
   ·rw [hv] at hk;simp [Value.ownBlock] at hk;omega
  ·have:=h3.size;simp at this;omega
  ·intro k hk hA
   have hne2:some k≠(Value.slice A n c).ownBlock:=by
    rcases hown.2 with ⟨hv,_⟩ | ⟨g',cap',cur',hv,hg',_⟩
    ·rw [hv];simp [Value.ownBlock]
    ·injection hv with hv1 _ _
     rw [hv1]
     intro e
     have:k=g':=by simpa [Value.ownBlock] using e
     exact hA 0 none (by rw [hv1,this])
   rw [h3.block k (by simp;omega) hne2]
   show (w.heap.push _)[k]? = _
   rw [Array.getElem?_push_lt hk,Array.getElem?_eq_getElem hk]
end
structure RouO (w:World) (Bs:Nat) (m:RouM):Prop where
 rests:OwnR w Bs 4 1 m.A m.r.rests.length m.ca (boolsP m.r.rests)
 vis:OwnR w Bs 92 2 m.C m.r.vis.length m.cc (m.r.vis.flatMap visC)
 kind:fits m.r.kind
 start:fits m.r.start
 visF:∀ v ∈ m.r.vis,fits v.1
theorem RouO.at_ {w:World} {Bs:Nat} {m:RouM} (h:RouO w Bs m):RouAt w m:=⟨h.rests.cells,h.vis.cells,h.rests.cap,h.vis.cap,h.kind,h.start,h.visF⟩
theorem RouO.below {w w':World} {Bs:Nat} {m:RouM} (h:RouO w Bs m) (hb:Below w.heap.size w w'):RouO w' Bs m:=⟨h.rests.below hb,h.vis.below hb,h.kind,h.start,h.visF⟩
theorem RouO.mono {w:World} {Bs Bs':Nat} {m:RouM} (h:RouO w Bs m) (hB:Bs'≤Bs):RouO w Bs' m:=⟨h.rests.mono hB,h.vis.mono hB,h.kind,h.start,h.visF⟩
theorem RouO.keptA {w w':World} {Bs Bs' sz n c:Nat} {e:TypeId} {X:Option Addr} {ys:List Value} {m:RouM} (h:RouO w Bs m) (hk:KpA X w w') (hX:OwnR w Bs' e sz X n c ys) (h1:4≠e) (h2:92≠e):RouO w' Bs m:=⟨h.rests.keptA hk hX h1,h.vis.keptA hk hX h2,h.kind,h.start,h.visF⟩
theorem pbool_info:(Tryz.prog.info? 4).map (fun i=>(i.zero,i.size,i.bytes))=some (some (.bool false),1,1):=by kernel_rfl
theorem el_pbool:ElemR Tryz.prog 31 4 (.bool false) 1 1:=⟨Tryz.underlying31,info_parts pbool_info,rfl,by decide⟩
theorem pint_info:(Tryz.prog.info? 3).map (fun i=>(i.zero,i.size,i.bytes))=some (some (.int .i64 0),1,8):=by kernel_rfl
theorem el_pint:ElemR Tryz.prog 46 3 (.int .i64 0) 1 8:=⟨Tryz.underlying46,info_parts pint_info,rfl,by decide⟩
theorem pvis_info:(Tryz.prog.info? 92).map (fun i=>(i.zero,i.size,i.bytes))=some (some (.agg #[.int .i64 0,.bool false]),2,16):=by kernel_rfl
theorem el_pvis:ElemR Tryz.prog 32 92 (.agg #[.int .i64 0,.bool false]) 2 16:=⟨Tryz.underlying32,info_parts pvis_info,rfl,by decide⟩
theorem prou_info:(Tryz.prog.info? 34).map (fun i=>(i.zero,i.size,i.bytes))=some (some (.agg #[.int .i64 0,.int .i64 0,.slice none 0 0,.slice none 0 0]),4,64):=by kernel_rfl
theorem prat_info:(Tryz.prog.info? 69).map (fun i=>(i.zero,i.size,i.bytes))=some (some (.string (B [])),1,16):=by kernel_rfl
theorem pstr_info:(Tryz.prog.info? 9).map (fun i=>(i.zero,i.size,i.bytes))=some (some (.string (B [])),1,16):=by kernel_rfl
theorem el_pstr:ElemR Tryz.prog 22 9 (.string (B [])) 1 16:=⟨Tryz.underlying22,info_parts pstr_info,rfl,by decide⟩
end Go.Proofs.YtjcekdiocliddaaGreatDoor
namespace Go.Proofs.YtjcekdiocliddaaGreatDoor
open Go.RowKit Num Txt Pf
set_option linter.unusedVariables false
end Go.Proofs.YtjcekdiocliddaaGreatDoor

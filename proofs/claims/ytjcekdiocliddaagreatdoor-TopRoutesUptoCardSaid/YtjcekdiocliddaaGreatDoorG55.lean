/- Plans and proofs as they lie in memory. -/
import Derived.Test.YtjcekdiocliddaaGreatDoorG54
import Derived.Test.YtjcekdiocliddaaGreatDoorG10
import Derived.Test.YtjcekdiocliddaaGreatDoorG14
namespace Go.Proofs.YtjcekdiocliddaaGreatDoor
open Go.RowKit Num Txt Pf
set_option linter.unusedVariables false
theorem flat_get {α} (f:α->List Value) {k:Nat} (hf:∀ x,(f x).length=k) (l:List α):∀ (i:Nat) (hi:i<l.length) (j:Nat),j<k->(l.flatMap f)[i*k+j]? = (f l[i])[j]? := by
 induction l with
 |nil=>intro i hi;exact absurd hi (by simp)
 |cons a l ih =>
  intro i hi j hj;rw [List.flatMap_cons]
  cases i with
  |zero=>rw [Nat.zero_mul,Nat.zero_add,List.getElem?_append_left (by rw [hf];exact hj)];rfl
  |succ i =>
   rw [List.getElem?_append_right (by rw [hf,Nat.succ_mul];omega),hf,show (i+1)*k+j - k=i*k+j by rw [Nat.succ_mul];omega];exact ih i (by simpa using hi) j hj
theorem fl {α} (f:α->List Value) {k:Nat} (hf:∀ x,(f x).length=k) (l:List α):(l.flatMap f).length=l.length*k:=by
 induction l with
 |nil=>simp
 |cons a l ih=>rw [List.flatMap_cons,List.length_append,hf,ih,List.length_cons,Nat.succ_mul];omega
theorem Fs {α} (f:α->List Value) (l:List α) (x:α):l.flatMap f ++ f x=(l ++ [x]).flatMap f:=by rw [List.flatMap_append];simp
def bP (l:List Bool):List Value:=l.map Value.bool
theorem boolsP_get (l:List Bool) (i:Nat) (h:i<l.length):(bP l)[i]? = some (.bool l[i]):=by unfold bP;rw [List.getElem?_map,List.getElem?_eq_getElem h];rfl
def VC (v:Int × Bool):List Value:=[.int .i64 v.1,.bool v.2]
theorem vC (v:Int × Bool):(VC v).length=2:=rfl
structure RM where
 A:Option Addr
 ca:Nat
 C:Option Addr
 cc:Nat
 r:RV
def RM.cells (m:RM):List Value:=[.int .i64 m.r.kind,.int .i64 m.r.start,.slice m.A m.r.rests.length m.ca,.slice m.C m.r.vis.length m.cc]
theorem RM.cells_len (m:RM):m.cells.length=4:=rfl
structure Rt (w:World) (m:RM):Prop where
 rests:Cs w m.A (bP m.r.rests)
 vis:Cs w m.C (m.r.vis.flatMap VC)
 rl:m.r.rests.length<=m.ca/\m.ca<=maxLen
 vl:m.r.vis.length<=m.cc/\m.cc<=maxLen
 kind:fits m.r.kind
 start:fits m.r.start
 visF:∀ v ∈ m.r.vis,fits v.1
theorem Rt.below {w w':World} {m:RM} (h:Rt w m) (hb:Below w.heap.size w w'):Rt w' m:=⟨h.rests.below hb,h.vis.below hb,h.rl,h.vl,h.kind,h.start,h.visF⟩
structure PlanM where
 A:Option Addr
 ca:Nat
 rs:List RM
 C:Option Addr
 cc:Nat
 us:List Int
def PlanM.cells (m:PlanM):List Value:=[.slice m.A m.rs.length m.ca,.slice m.C m.us.length m.cc]
structure NM where
 A:Option Addr
 ca:Nat
 C:Option Addr
 cc:Nat
 n:NodeV
def NM.cells (m:NM):List Value:=[.bool m.n.leaf,.int .i64 m.n.kind,.slice m.A m.n.cuts.length m.ca,.slice m.C m.n.dual.length m.cc,.int .i64 m.n.ck,.int .i64 m.n.ca,.int .i64 m.n.cb,.int .i64 m.n.cn,.int .i64 m.n.yes,.int .i64 m.n.no]
theorem NM.cells_len (m:NM):m.cells.length=10:=rfl
structure ProofM where
 none:Bool
 P:PlanM
 A:Option Addr
 ca:Nat
 ns:List NM
def ProofM.cells (m:ProofM):List Value:=[.bool m.none,.slice m.P.A m.P.rs.length m.P.ca,.slice m.P.C m.P.us.length m.P.cc,.slice m.A m.ns.length m.ca]
abbrev ro (m:RM):Value:=.agg #[.int .i64 m.r.kind,.int .i64 m.r.start,.slice m.A m.r.rests.length m.ca,.slice m.C m.r.vis.length m.cc]
end Go.Proofs.YtjcekdiocliddaaGreatDoor
namespace Go.Proofs.YtjcekdiocliddaaGreatDoor
open Go.ChangeShapes Go.WideShapes Go.RowKit Num Txt Pf
set_option linter.unusedVariables false
section
variable {H:Type} {enc:TypeId × Value->H} {W:World} {P:Program}
theorem flat_bools (ls:List Bool):ls.flatMap (fun b=>[Value.bool b])=bP ls:=by
 unfold bP
 induction ls with
 |nil=>rfl
 |cons a l ih=>rw [List.flatMap_cons,List.map_cons,ih];rfl
theorem oF {ρ:Type} {k:Nat} {f:ρ->List Value} (hf:∀ x,(f x).length=k) (hk:0<k) {t e:TypeId} (ht:P.underlying t=some (.slice e)) (hce:P.cellsOf e=k) (ok:ρ->Prop)
  (hel:∀ {fuel:Nat} {cs:List Value} {x:DataW H × List MemPlace},DataW.trod enc P W 0 (fun _=>true) true fuel e cs=some x->∃ r,cs=f r/\ok r)
  {fuel:Nat} {cs:List Value} {x:DataW H × List MemPlace} (h:DataW.trod enc P W 0 (fun _=>true) true fuel t cs=some x) :
  ∃ (A:Option Addr) (rs:List ρ) (c:Nat),cs=[.slice A rs.length c]/\(rs.length<=c/\c<=maxLen)/\Cs W A (rs.flatMap f)/\∀ r ∈ rs,ok r:=by
 rcases DataW.trod_slice ht h with ⟨h1,_⟩ | ⟨a,len,cap,elems,rest,n,_,hcc,_,_,hl,hm,hlen,hel2,_,_⟩
 ·exact ⟨none,[],0,h1,⟨Nat.le_refl _,by unfold maxLen;omega⟩,Cs.nil _ _,fun r hr=>absurd hr (by simp)⟩
 ·rw [hce] at hel2
  have key:∀ i,i<len->∃ r:ρ,(∀ j v,(f r)[j]? = some v->W.cell? ((a.add (i*k)).add j)=some v)/\ok r:=by
   intro i hi;have h3:=hel2 i hi;rw [List.getElem?_eq_getElem (show i<elems.length by omega)] at h3;obtain ⟨us,hu1,hu2⟩:=Option.bind_eq_some_iff.1 h3;obtain ⟨_,hu3,hu4⟩:=World.cells?_some hu1;obtain ⟨r,rfl,hr1⟩:=hel hu2;refine ⟨r,fun j v hj=>?_,hr1⟩;have hjl:=(List.getElem?_eq_some_iff.1 hj).1;rw [hu4 j (by rw [hf] at hjl;exact hjl)];exact hj
  obtain ⟨rs,hrl,hrp⟩:=lE len _ key;refine ⟨some a,rs,cap,by rw [hcc,hrl],⟨by omega,hm⟩,fun h0=>?_,fun r hr=>?_⟩
  ·rw [fl f hf] at h0
   have hr0:0<rs.length:=Nat.pos_of_mul_pos_right h0;obtain ⟨b,off,spot⟩:=a;have hg0:∃ v,(f rs[0])[0]? = some v:=⟨_,List.getElem?_eq_getElem (by rw [hf];exact hk)⟩
   obtain ⟨v0,hv0⟩:=hg0;have h00:=(hrp 0 hr0).1 0 v0 hv0;have hspot:spot=none:=by simpa [Addr.add] using World.cell?_spot h00
   subst hspot;rw [add_plain,add_plain] at h00;refine ⟨b,off,rfl,?_,fun j u hu=>?_⟩
   ·exact lt_of_cell (u:=v0) (o:=off+0*k) (j:=0) (by rw [add_plain];exact h00)
   ·have hj:j<rs.length*k:=by rw [<- fl f hf rs];exact (List.getElem?_eq_some_iff.1 hu).1
    have hi:j / k<rs.length:=Nat.div_lt_of_lt_mul (by rw [Nat.mul_comm];exact hj);have hm2:j % k<k:=Nat.mod_lt _ hk;have he:j / k*k+j % k=j:=by rw [Nat.mul_comm];exact Nat.div_add_mod j k
    rw [<- he,flat_get f hf rs _ hi _ hm2] at hu;have h3:=(hrp _ hi).1 _ u hu;rw [add_plain,add_plain] at h3;rw [<- he,<- Nat.add_assoc];exact h3
  ·obtain ⟨i,hi,rfl⟩:=List.getElem_of_mem hr
   exact (hrp i hi).2
theorem oP {t e:TypeId} (ht:P.underlying t=some (.slice e)) (he:P.underlying e=some .string) (hc:P.cellsOf e=1) {fuel:Nat} {cs:List Value} {x:DataW H × List MemPlace}
  (hf:DataW.trod enc P W 0 (fun _=>true) true fuel t cs=some x) :
  ∃ (A:Option Addr) (ls:List Sr) (c:Nat),cs=[.slice A ls.length c]/\(ls.length<=c/\c<=maxLen)/\Cs W A (Go.Proofs.YtjcekdiocliddaaGreatDoor.strs ls)/\∀ s ∈ ls,s.length<=maxLen:=by
 have hcs:∃ a len cap,cs=[.slice a len cap]:=by
  rcases open_strings ht he hc hf with ⟨hcs,_⟩ | ⟨a,len,cap,_,hcs,_⟩
  ·exact ⟨_,_,_,hcs⟩
  ·exact ⟨_,_,_,hcs⟩
 obtain ⟨a,len,cap,rfl⟩:=hcs;obtain ⟨A,ns,c,hv,h1,h2,h3,h4⟩:=open_strs_list (v:=.slice a len cap) (d:=x.1) (p:=x.2) ht he hc ⟨_,_,_,rfl⟩ ⟨fuel,by simpa [Value.cells] using hf⟩;exact ⟨A,ns,c,by rw [hv],⟨h1,h2⟩,h3,h4⟩
variable {tb ti ts:TypeId}
theorem Ob {t:TypeId} (ht:P.underlying t=some (.slice tb)) (htb:P.underlying tb=some .bool) (hcb:P.cellsOf tb=1) {fuel:Nat} {cs:List Value} {x:DataW H × List MemPlace}
  (hf:DataW.trod enc P W 0 (fun _=>true) true fuel t cs=some x) :
  ∃ (A:Option Addr) (ls:List Bool) (c:Nat),cs=[.slice A ls.length c]/\(ls.length<=c/\c<=maxLen)/\Cs W A (bP ls):=by
 obtain ⟨A,ls,c,h1,h2,h3,_⟩:=oF (f:=fun b:Bool=>[Value.bool b]) (k:=1) (fun _=>rfl) (by decide) ht hcb (fun _=>True) (fun h=>by
  obtain ⟨b,e,_⟩:=DataW.trod_bool htb h;exact ⟨b,e,trivial⟩) hf
 refine ⟨A,ls,c,h1,h2,?_⟩;have e:=flat_bools ls;rw [<- e];exact h3
variable {tv:TypeId} {f0 f1 f2 f3 f4 f5 f6:Field}
theorem open_visP (hv:P.underlying tv=some (.struct #[f0,f1])) (hti:P.underlying ti=some (.int .i64)) (htb:P.underlying tb=some .bool) (hci:P.cellsOf ti=1) (hcb:P.cellsOf tb=1) (hcv:P.cellsOf tv=2)
  (t0:f0.type=ti/\f0.offset=0) (t1:f1.type=tb/\f1.offset=1) {fuel:Nat} {cs:List Value} {x:DataW H × List MemPlace} (hf:DataW.trod enc P W 0 (fun _=>true) true fuel tv cs=some x) :
  ∃ v:Int × Bool,cs=VC v/\fits v.1:=by
 obtain ⟨xs,n,_,rfl,hl,hlen,hg⟩:=DataW.trod_struct hv hf;rw [hcv] at hl
 match cs,hl with
 |[u0,u1],_ =>
  match xs,hlen with
  |[y0,y1],_ =>
   have q0:=hg 0 f0 rfl;have q1:=hg 1 f1 rfl;rw [t0.1,t0.2,hci] at q0;rw [t1.1,t1.2,hcb] at q1;simp only [List.drop_zero,List.take_succ_cons,List.take_zero,List.drop_succ_cons,List.getElem?_cons_zero,List.getElem?_cons_succ] at q0 q1;obtain ⟨a,e0,_,w0⟩:=DataW.trod_int hti q0;obtain ⟨b,e1,_⟩:=DataW.trod_bool htb q1;injection e0 with e0 _
   injection e1 with e1 _
   exact ⟨(a,b),by rw [e0,e1];rfl,Wf w0⟩
section
variable {tI tB tS tBs tIs tV tVs tR tRs tP tC tCs tQ tQs tD tN tNs tF:TypeId}
end
end
end Go.Proofs.YtjcekdiocliddaaGreatDoor
namespace Go.Proofs.YtjcekdiocliddaaGreatDoor
open Go.RowKit Num Txt Pf
set_option linter.unusedVariables false
theorem lh {w:World} {b:Nat} {o:Obj} (h:w.heap[b]? = some o):b<w.heap.size:=by
 rcases Nat.lt_or_ge b w.heap.size with h' | h'
 ·exact h'
 ·rw [Array.getElem?_eq_none h'] at h;cases h
theorem bL {w0 w1 w2:World} (h1:Below w0.heap.size w0 w1) (h2:Below w1.heap.size w1 w2):Below w0.heap.size w0 w2:=h1.trans (h2.mono h1.size)
theorem Na (w:World) (o:Obj):Below w.heap.size w (w.alloc o)/\(w.alloc o).heap[w.heap.size]? = some o:=⟨(Below.refl _ _).alloc (Nat.le_refl _) _,by show (w.heap.push o)[w.heap.size]? = some o;simp⟩
theorem rK {w w':World} {g:Nat} {o:Obj} (h:w.heap[g]? = some o) (hb:Below w.heap.size w w'):w'.heap[g]? = some o:=by rw [hb.block g (lh h)];exact h
def KA (A:Option Addr) (w w':World):Prop:=w.heap.size<=w'.heap.size/\∀ k,k<w.heap.size->(∀ off sp,A≠some ⟨k,off,sp⟩)->w'.heap[k]? = w.heap[k]?
structure KpB (g:Nat) (w w':World):Prop where
 size:w.heap.size<=w'.heap.size
 block:∀ k,k<w.heap.size->k≠g->w'.heap[k]? = w.heap[k]?
 strm:w'.os=w.os/\w'.tape=w.tape/\w'.output=w.output
theorem KpB.refl (g:Nat) (w:World):KpB g w w:=⟨Nat.le_refl _,fun _ _ _=>rfl,rfl,rfl,rfl⟩
theorem KpB.store {g:Nat} {w w1:World} (k:KpB g w w1) (j:Nat) (u:Value):KpB g w (w1.setCell ⟨g,j,none⟩ u) :=
 ⟨by rw [World.size_setCell];exact k.1,fun b h1 h2=>by rw [Below.heap_setCell _ _ _ _ h2];exact k.2 b h1 h2,k.strm⟩
theorem KpB.trans {g:Nat} {w w1 w2:World} (k:KpB g w w1) (k2:KpB g w1 w2):KpB g w w2 :=
 ⟨Nat.le_trans k.1 k2.1,fun b h1 h2=>(k2.2 b (Nat.lt_of_lt_of_le h1 k.1) h2).trans (k.2 b h1 h2),k2.strm.1.trans k.strm.1,k2.strm.2.1.trans k.strm.2.1,k2.strm.2.2.trans k.strm.2.2⟩
theorem KpB.row {g b:Nat} {w w':World} {o:Obj} (k:KpB g w w') (h:w.heap[b]? = some o) (hne:b≠g):w'.heap[b]? = some o:=(k.2 b (lh h) hne).trans h
theorem Hp {w:World} {g i:Nat} {v:Value} {l:Array Value} {e:TypeId} {z:Nat × Nat} (h:w.heap[g]? = some (.cells l e z)):(w.setCell ⟨g,i,none⟩ v).heap[g]? = some (.cells (l.setIfInBounds i v) e z):=by
 unfold World.setCell;show (w.heap.modify g _)[g]? = _
 rw [Array.getElem?_modify,if_pos rfl,h];rfl
section
variable {w w':World} {Bs Bs' sz sz' n n' c c' g:Nat} {e e':TypeId} {A X:Option Addr} {xs ys:List Value} {l:Array Value} {z:Nat × Nat}
theorem OR.typ (h:OR w Bs e sz (some ⟨g,0,none⟩) n c xs):Bs<=g/\g<w.heap.size/\∃ cur,w.heap[g]? = some (.cells cur e (0,0)):=by
 rcases h.2 with ⟨hv,_⟩ | ⟨g',cap,cur,hv,hb,hh,_⟩
 ·injection hv with hv _ _;cases hv
 ·injection hv with hv _ _
  injection hv with hv
  injection hv with hv _ _
  subst hv;exact ⟨hb,lh hh,cur,hh⟩
theorem OR.form (h:OR w Bs e sz A n c xs):A=none∨∃ g,A=some ⟨g,0,none⟩:=by
 rcases h.2 with ⟨hv,_⟩ | ⟨g',cap,cur,hv,_⟩
 ·injection hv with hv _ _;exact .inl hv
 ·injection hv with hv _ _;exact .inr ⟨g',hv⟩
theorem OR.keep (h:OR w Bs e sz A n c xs) (hk:∀ b,A=some ⟨b,0,none⟩->w'.heap[b]? = w.heap[b]?):OR w' Bs e sz A n c xs:=by
 refine ⟨h.1,?_⟩;rcases h.2 with h2 | ⟨g',cap,cur,hv,hgb,hh,r⟩
 ·exact .inl h2
 ·refine .inr ⟨g',cap,cur,hv,hgb,?_,r⟩
  injection hv with hA _ _
  rw [hk g' hA];exact hh
theorem OR.not (h:OR w Bs e sz A n c xs) (hg:w.heap[g]? = some (.cells l e' z)) (he:e≠e'):A≠some ⟨g,0,none⟩:=by
 intro hA;subst hA;obtain ⟨_,_,cur,h3⟩:=h.typ;rw [hg] at h3;injection h3 with h3
 injection h3 with _ h3 _
 exact he h3.symm
theorem OR.keptB (h:OR w Bs e sz A n c xs) (hk:KpB g w w') (hg:w.heap[g]? = some (.cells l e' z)) (he:e≠e'):OR w' Bs e sz A n c xs :=
 h.keep fun b hb=>hk.2 b (by subst hb;exact h.typ.2.1) (fun e=>h.not hg he (by rw [hb,e]))
theorem OR.keptA (h:OR w Bs e sz A n c xs) (hk:KA X w w') (hX:OR w Bs' e' sz' X n' c' ys) (he:e≠e'):OR w' Bs e sz A n c xs :=
 h.keep fun b hb=>hk.2 b (by subst hb;exact h.typ.2.1) fun off sp hx=>by
  rcases hX.form with hf | ⟨g',hf⟩
  ·rw [hf] at hx;cases hx
  ·have:g'=b:=by rw [hf] at hx;injection hx with hx;injection hx with hx _ _
   subst this;subst hf;obtain ⟨_,_,cur,h3⟩:=hX.typ;exact h.not h3 he hb
theorem OR.cells (h:OR w Bs e sz A n c xs):Cs w A xs:=by
 intro h0;by_cases hn:n=0
 ·have:=h.len;rw [hn,Nat.zero_mul] at this;omega
 ·obtain ⟨g,hA,_,hg,hc,_⟩:=h.at_ (by omega)
  refine ⟨g,0,hA,hg,fun j u hu=>?_⟩;have hj:j<xs.length:=(List.getElem?_eq_some_iff.1 hu).1;rw [Nat.zero_add,hc j (by rw [<- h.len];exact hj),hu]
theorem KA.row {b:Nat} {o:Obj} (k:KA X w w') (h:w.heap[b]? = some o) (hne:∀ off sp,X≠some ⟨b,off,sp⟩):w'.heap[b]? = some o:=(k.2 b (lh h) hne).trans h
theorem OR.far (h:OR w Bs e sz A n c xs) (hg:w.heap[g]? = some (.cells l e' z)) (he:e≠e'):∀ off sp,A≠some ⟨g,off,sp⟩:=fun off sp hA=>by
 rcases h.form with hf | ⟨g',hf⟩
 ·rw [hf] at hA;cases hA
 ·have h1:=hf
  rw [hA] at h1;injection h1 with h1;injection h1 with h1 h2 h3
  exact h.not hg he (by rw [hA,h2,h3])
end
section
variable {P:Program} {ops:Array Oper} {rest:List Oper} {o:Oper} {a:Act} {Q:Exit->Act->World->Prop}
theorem wk {t e:TypeId} {z:Value} {sz bytes:Nat} (he:ER P t e z sz bytes) (hgd:o.guard=none) (s x:Operand) (ho:o.op=.call { callee:=.builtin .append,args:=#[s,x],argTypes:=#[t,t] })
  (Bs:Nat) (A:Option Addr) (n c:Nat) (xs:List Value) (w:World) (us:Array Value) (hs:a.eval s=.slice A n c) (hown:OR w Bs e sz A n c xs)
  (hx:a.eval x=.slice (some ⟨w.heap.size,0,none⟩) 1 1) (hus:us.size=sz) (h1:∀ u ∈ us.toList,u.oneCell'=true) (h63:n+1<=maxLen) (hby:(n+1)*bytes<=140737488355328) (hbase:Bs<=w.heap.size)
  (h:∀ A' c' w',OR w' Bs e sz A' (n+1) c' (xs ++ us.toList)->Below Bs w w'->KA A w w'->wpList P ops Q rest (a.put o.dst (.slice A' (n+1) c')) w') :
  wpList P ops Q (o :: rest) a (w.alloc (.cells us e)):=by
 obtain ⟨ht,⟨i,hi,hz,hsz,hb⟩,hzs,hpos⟩:=he;have hown':(w.alloc (.cells us e)).ownsRow Bs e sz (.slice A n c) n xs:=hown.alloc _;refine wpList_append_own _ hgd s x t ho Bs e i z sz bytes ht hi hz hsz hb hzs hpos _ n xs hs hown' ⟨w.heap.size,0,none⟩ 1 1 us.toList hx (by rw [Array.length_toList,hus];omega) ?_ h1 h63 hby (by simp;omega) ?_
 ·intro j v hj
  rw [Array.getElem?_toList] at hj;have hjl:j<us.size:=(Array.getElem?_eq_some_iff.1 hj).1;unfold Addr.add;by_cases h0:j=0
  ·subst h0;rw [if_pos rfl,World.cell?_alloc_new];exact hj
  ·rw [if_neg h0];show (w.alloc _).cell? ⟨w.heap.size,0+j,none⟩=_;rw [Nat.zero_add,World.cell?_alloc_new];exact hj
 ·intro v' w' h2 h3 h4
  have hne:v'≠.slice none 0 0:=by intro e;have:=(h4.1 e).2;omega
  obtain ⟨g,cap,hv⟩:∃ g cap,v'=.slice (some ⟨g,0,none⟩) (n+1) cap:=by
   rcases h2.2 with ⟨hv,_⟩ | ⟨g,cap,cur,hv,_⟩
   ·exact absurd hv hne
   ·exact ⟨g,cap,hv⟩
  subst hv;refine h _ _ _ h2 ?_ ⟨?_,?_⟩
  ·refine ((Below.refl _ _).alloc hbase _).grown h3 (by simp;omega) ?_
   intro k hk;rcases hown.2 with ⟨hv,_⟩ | ⟨g',cap',cur',hv,hg',_⟩
   ·rw [hv] at hk;simp [Value.ownBlock] at hk
   ·rw [hv] at hk;simp [Value.ownBlock] at hk;omega
  ·have:=h3.size;simp at this;omega
  ·intro k hk hA
   have hne2:some k≠(Value.slice A n c).ownBlock:=by
    rcases hown.2 with ⟨hv,_⟩ | ⟨g',cap',cur',hv,hg',_⟩
    ·rw [hv];simp [Value.ownBlock]
    ·injection hv with hv1 _ _
     rw [hv1];intro e;have:k=g':=by simpa [Value.ownBlock] using e
     exact hA 0 none (by rw [hv1,this])
   rw [h3.block k (by simp;omega) hne2];show (w.heap.push _)[k]? = _
   rw [Array.getElem?_push_lt hk,Array.getElem?_eq_getElem hk]
end
theorem pint_info:(Tryz.prog.info? 3).map (fun i=>(i.zero,i.size,i.bytes))=some (some (.int .i64 0),1,8):=by kernel_rfl
theorem el_pint:ER Tryz.prog 46 3 (.int .i64 0) 1 8:=⟨Tryz.underlying46,info_parts pint_info,rfl,by decide⟩
theorem pvis_info:(Tryz.prog.info? 92).map (fun i=>(i.zero,i.size,i.bytes))=some (some (.agg #[.int .i64 0,.bool false]),2,16):=by kernel_rfl
theorem ep:ER Tryz.prog 32 92 (.agg #[.int .i64 0,.bool false]) 2 16:=⟨Tryz.underlying32,info_parts pvis_info,rfl,by decide⟩
end Go.Proofs.YtjcekdiocliddaaGreatDoor

/- Slices of structs that the call itself made. -/
import Derived.Test.YtljekdpgjaahjaaGreatDoorG3
import Derived.Test.YtljekdpgjaahjaaGreatDoorG10
namespace Go.Proofs.YtljekdpgjaahjaaGreatDoor
open Go.RowKit
set_option linter.unusedVariables false
def OwnR (w:World) (Bs:Nat) (e:TypeId) (sz:Nat) (A:Option Addr) (n c:Nat) (xs:List Value):Prop:=w.ownsRow Bs e sz (.slice A n c) n xs
section
variable {w w':World} {Bs Bs' sz n c:Nat} {e:TypeId} {A:Option Addr} {xs:List Value}
theorem OwnR.nil (w:World) (Bs:Nat) (e:TypeId) (sz:Nat):OwnR w Bs e sz none 0 0 []:=⟨by simp,.inl ⟨rfl,rfl⟩⟩
theorem OwnR.len (h:OwnR w Bs e sz A n c xs):xs.length=n*sz:=h.1
theorem OwnR.cap (h:OwnR w Bs e sz A n c xs):n≤c∧c≤maxLen:=by
 rcases h.2 with ⟨hv,hn⟩ | ⟨g,cap,cur,hv,_,_,h1,h2,_⟩
 ·injection hv with _ _ hc;subst hc;subst hn;exact ⟨Nat.le_refl _,Nat.zero_le _⟩
 ·injection hv with _ _ hc;subst hc;exact ⟨h1,h2⟩
theorem OwnR.below (h:OwnR w Bs e sz A n c xs) (hb:Below w.heap.size w w'):OwnR w' Bs e sz A n c xs:=by
 refine ⟨h.1,?_⟩
 rcases h.2 with h2 | ⟨g,cap,cur,hv,hg,hh,r⟩
 ·exact .inl h2
 ·refine .inr ⟨g,cap,cur,hv,hg,?_,r⟩
  rw [hb.block g ?_];exact hh
  rcases Nat.lt_or_ge g w.heap.size with h' | h'
  ·exact h'
  ·rw [Array.getElem?_eq_none h'] at hh;cases hh
theorem OwnR.mono (h:OwnR w Bs e sz A n c xs) (hB:Bs'≤Bs):OwnR w Bs' e sz A n c xs:=by
 refine ⟨h.1,?_⟩
 rcases h.2 with h2 | ⟨g,cap,cur,hv,hg,r⟩
 ·exact .inl h2
 ·exact .inr ⟨g,cap,cur,hv,by omega,r⟩
theorem OwnR.alloc (h:OwnR w Bs e sz A n c xs) (o:Obj):OwnR (w.alloc o) Bs e sz A n c xs:=h.below ((Below.refl _ _).alloc (Nat.le_refl _) _)
theorem OwnR.at_ (h:OwnR w Bs e sz A n c xs) (h0:0<n) :
  ∃ g,A=some ⟨g,0,none⟩∧Bs≤g∧g<w.heap.size∧(∀ j,j<n*sz→w.cell? ⟨g,j,none⟩=xs[j]?)∧∀ j,w.frozen? ⟨g,j,none⟩=false:=by
 rcases h.2 with ⟨hv,hn⟩ | ⟨g,cap,cur,hv,hg,hh,h1,_,_,h4⟩
 ·omega
 ·injection hv with hA _ hc
  subst hA;subst hc
  refine ⟨g,rfl,hg,?_,fun j hj=>World.ownsRow.cellAt h j hj,fun j=>World.ownsRow.frozenAt h j⟩
  rcases Nat.lt_or_ge g w.heap.size with h' | h'
  ·exact h'
  ·rw [Array.getElem?_eq_none h'] at hh;cases hh
end
def ElemR (P:Program) (t e:TypeId) (z:Value) (sz bytes:Nat):Prop :=
 P.underlying t=some (.slice e)∧(∃ i,P.info? e=some i∧i.zero=some z∧i.size=sz∧i.bytes=bytes)∧z.cells.size=sz∧0<sz
section
variable {P:Program} {ops:Array Oper} {rest:List Oper} {o:Oper} {a:Act} {Q:Exit→Act→World→Prop}
theorem wp_app1r {t e:TypeId} {z:Value} {sz bytes:Nat} (he:ElemR P t e z sz bytes) (hgd:o.guard=none) (s x:Operand) (ho:o.op=.call { callee:=.builtin .append,args:=#[s,x],argTypes:=#[t,t] })
  (Bs:Nat) (A:Option Addr) (n c:Nat) (xs:List Value) (w:World) (us:Array Value) (hs:a.eval s=.slice A n c) (hown:OwnR w Bs e sz A n c xs)
  (hx:a.eval x=.slice (some ⟨w.heap.size,0,none⟩) 1 1) (hus:us.size=sz) (h1:∀ u ∈ us.toList,u.oneCell'=true) (h63:n+1≤maxLen) (hby:(n+1)*bytes≤140737488355328) (hbase:Bs≤w.heap.size)
  (h:∀ A' c' w',OwnR w' Bs e sz A' (n+1) c' (xs ++ us.toList)→Below Bs w w'→wpList P ops Q rest (a.put o.dst (.slice A' (n+1) c')) w') :
  wpList P ops Q (o :: rest) a (w.alloc (.cells us e)):=by
 obtain ⟨ht,⟨i,hi,hz,hsz,hb⟩,hzs,hpos⟩:=he
 have hown':(w.alloc (.cells us e)).ownsRow Bs e sz (.slice A n c) n xs:=hown.alloc _
 refine wpList_append_own _ hgd s x t ho Bs e i z sz bytes ht hi hz hsz hb hzs hpos _ n xs hs hown' ⟨w.heap.size,0,none⟩ 1 1 us.toList hx (by rw [Array.length_toList,hus];omega) ?_ h1 h63 hby (by simp;omega) ?_
 ·intro j v hj
  rw [Array.getElem?_toList] at hj
  have hjl:j<us.size:=(Array.getElem?_eq_some_iff.1 hj).1
  unfold Addr.add
  by_cases h0:j=0
  ·subst h0;rw [if_pos rfl,World.cell?_alloc_new];exact hj
  ·rw [if_neg h0];show (w.alloc _).cell? ⟨w.heap.size,0+j,none⟩=_;rw [Nat.zero_add,World.cell?_alloc_new];exact hj
 ·intro v' w' h2 h3 h4
  have hne:v'≠.slice none 0 0:=by intro e;have:=(h4.1 e).2;omega
  obtain ⟨g,cap,hv⟩:∃ g cap,v'=.slice (some ⟨g,0,none⟩) (n+1) cap:=by
   rcases h2.2 with ⟨hv,_⟩ | ⟨g,cap,cur,hv,_⟩
   ·exact absurd hv hne
   ·exact ⟨g,cap,hv⟩
  subst hv
  refine h _ _ _ h2 ?_
  refine ((Below.refl _ _).alloc hbase _).grown h3 (by simp;omega) ?_
  intro k hk
  rcases hown.2 with ⟨hv,_⟩ | ⟨g',cap',cur',hv,hg',_⟩
  ·rw [hv] at hk;simp [Value.ownBlock] at hk
  ·rw [hv] at hk;simp [Value.ownBlock] at hk;omega
end
end Go.Proofs.YtljekdpgjaahjaaGreatDoor
namespace Go.Proofs.YtljekdpgjaahjaaGreatDoor
open Go.RowKit Num
def strs (ps:List Str):List Value:=ps.map fun p=>Value.string (B p)
theorem strs_length (ps:List Str):(strs ps).length=ps.length:=by simp [strs]
theorem snoc_strs (ps:List Str) (p:Str):strs ps ++ [.string (B p)]=strs (ps ++ [p]):=by simp [strs]
theorem str_info:(Tryz.prog.info? 9).map (fun i=>(i.zero,i.size,i.bytes))=some (some (.string (B [])),1,16):=by kernel_rfl
theorem el_string:Elem Tryz.prog 77 9 (.string (B [])) 16:=⟨Tryz.underlying77,info_parts str_info,rfl⟩
theorem strs_get (ps:List Str) (j:Nat) (h:j<ps.length):(strs ps)[j]? = some (.string (B (ps.getD j []))):=by simp [strs,List.getD,h]
set_option linter.unusedVariables false
attribute [local go_sem] B_size B_get B_toList B_mk B_extract B_append
attribute [local go_sem high] run_max2
theorem compareBytes_dec:∀ (a b:Str),a.length=b.length→a.all isDig=true→b.all isDig=true→Lib.compareBytes a b=ordI (val a) (val b):=by
 intro a
 induction a with
 |nil =>
  intro b h _ _
  have:b=[]:=List.eq_nil_of_length_eq_zero h.symm
  subst this;rfl
 |cons c s ih =>
  intro b h h1 h2
  cases b with
  |nil=>simp at h
  |cons d t =>
   simp only [List.all_cons,Bool.and_eq_true] at h1 h2
   have hl:s.length=t.length:=by simpa using h
   have hs:=val_lt s h1.2
   have ht:=val_lt t h2.2
   rw [hl] at hs
   have hdc:=h1.1
   have hdd:=h2.1
   unfold isDig at hdc hdd
   simp at hdc hdd
   have e1:=val_cons c s
   have e2:=val_cons d t
   rw [hl] at e1
   rw [Lib.compareBytes]
   by_cases hlt:c<d
   ·rw [if_pos hlt]
    have hn:c.toNat<d.toNat:=UInt8.lt_iff_toNat_lt.1 hlt
    have h3:dv c+1≤dv d:=by unfold dv;omega
    have h4:=Nat.mul_le_mul_right (10 ^ t.length) h3
    rw [Nat.add_mul] at h4
    exact (ordI_lt (by omega)).symm
   ·rw [if_neg hlt]
    by_cases hgt:d<c
    ·rw [if_pos hgt]
     have hn:d.toNat<c.toNat:=UInt8.lt_iff_toNat_lt.1 hgt
     have h3:dv d+1≤dv c:=by unfold dv;omega
     have h4:=Nat.mul_le_mul_right (10 ^ t.length) h3
     rw [Nat.add_mul] at h4
     exact (ordI_gt (by omega)).symm
    ·rw [if_neg hgt]
     have hcd:c=d:=by
      apply UInt8.toNat_inj.1
      have h5:¬ c.toNat<d.toNat:=fun h=>hlt (UInt8.lt_iff_toNat_lt.2 h)
      have h6:¬ d.toNat<c.toNat:=fun h=>hgt (UInt8.lt_iff_toNat_lt.2 h)
      omega
     rw [ih t hl h1.2 h2.2,e1,e2,hcd]
     unfold ordI
     split <;> split <;> (try split) <;> (try split) <;> omega
theorem dec_magL {a:Str} (h:rightI a=true):(dec (val (mag a))).length≤a.length:=by rw [← dec_mag h];exact mag_length a
def numCells (ls:List Str):List Value:=ls.flatMap fun s=>[.bool (neg? s),.string (B (mag s))]
theorem numCells_length (ls:List Str):(numCells ls).length=ls.length*2:=by
 induction ls with
 |nil=>rfl
 |cons a t ih=>unfold numCells at *;rw [List.flatMap_cons,List.length_append,ih,List.length_cons];simp;omega
theorem numCells_snoc (ls:List Str) (s:Str):numCells (ls ++ [s])=numCells ls ++ [.bool (neg? s),.string (B (mag s))]:=by simp [numCells]
theorem numCells_get (ls:List Str) (k:Nat) (h:k<ls.length):(numCells ls)[k*2]? = some (.bool (neg? (ls.getD k [])))∧(numCells ls)[k*2+1]? = some (.string (B (mag (ls.getD k [])))):=by
 induction ls generalizing k with
 |nil=>simp at h
 |cons a t ih =>
  have e:numCells (a :: t)=.bool (neg? a) :: .string (B (mag a)) :: numCells t:=rfl
  rw [e]
  cases k with
  |zero=>simp
  |succ k =>
   have:=ih k (by simpa using h)
   rw [show (k+1)*2=k*2+1+1 by omega,List.getElem?_cons_succ,List.getElem?_cons_succ,show k*2+1+1+1=k*2+1+1+1 from rfl,List.getElem?_cons_succ,List.getElem?_cons_succ]
   simpa using this
def errL (ls:List Str):Int:=if ls.all rightI=true then (if ls.all (fun s=>decide ((mag s).length≤4096))=true then 0 else 4) else 3
end Go.Proofs.YtljekdpgjaahjaaGreatDoor

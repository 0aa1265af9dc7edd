/- Slices that the call itself made: what an append, a make, a store leave. -/
import Derived.Test.YtljekdpgjaahjaaGreatDoorG2
import Derived.Laws.OwnMore
import Derived.Deep.RegionLaw
import Derived.Laws.MakeOwn
import Derived.Laws.BytesArg
import Derived.Lib.AppendStr
namespace Go.Proofs.YtljekdpgjaahjaaGreatDoor
open Go.RowKit
def OwnS (w:World) (Bs:Nat) (e:TypeId) (A:Option Addr) (n c:Nat) (xs:List Value):Prop:=w.ownsRow Bs e 1 (.slice A n c) n xs
theorem OwnS.nil (w:World) (Bs:Nat) (e:TypeId):OwnS w Bs e none 0 0 []:=⟨by simp,.inl ⟨rfl,rfl⟩⟩
theorem OwnS.len {w:World} {Bs:Nat} {e:TypeId} {A:Option Addr} {n c:Nat} {xs:List Value} (h:OwnS w Bs e A n c xs):xs.length=n:=by have:=h.1;omega
theorem OwnS.cap {w:World} {Bs:Nat} {e:TypeId} {A:Option Addr} {n c:Nat} {xs:List Value} (h:OwnS w Bs e A n c xs):n≤c∧c≤maxLen:=by
 rcases h.2 with ⟨hv,hn⟩ | ⟨g,cap,cur,hv,_,_,h1,h2,_⟩
 ·injection hv with _ _ hc;subst hc;subst hn;exact ⟨Nat.le_refl _,Nat.zero_le _⟩
 ·injection hv with _ _ hc;subst hc;exact ⟨h1,h2⟩
theorem OwnS.cells {w:World} {Bs:Nat} {e:TypeId} {A:Option Addr} {n c:Nat} {xs:List Value} (h:OwnS w Bs e A n c xs):Cells w A xs:=by
 intro h0
 rcases h.2 with ⟨hv,hn⟩ | ⟨g,cap,cur,hv,_,hh,h1,_,_,h4⟩
 ·have:=h.1;omega
 ·injection hv with hA _ hc
  subst hA;subst hc
  refine ⟨g,0,rfl,?_,fun j u hu=>?_⟩
  ·rcases Nat.lt_or_ge g w.heap.size with h' | h'
   ·exact h'
   ·rw [Array.getElem?_eq_none h'] at hh;cases hh
  ·have hj:j<xs.length:=(List.getElem?_eq_some_iff.1 hu).1
   have:=World.ownsRow.cellAt h j (by have:=h.1;omega)
   rw [Nat.zero_add,this,hu]
theorem OwnS.below {w w':World} {Bs:Nat} {e:TypeId} {A:Option Addr} {n c:Nat} {xs:List Value} (h:OwnS w Bs e A n c xs) (hb:Below w.heap.size w w'):OwnS w' Bs e A n c xs:=by
 refine ⟨h.1,?_⟩
 rcases h.2 with h2 | ⟨g,cap,cur,hv,hg,hh,r⟩
 ·exact .inl h2
 ·refine .inr ⟨g,cap,cur,hv,hg,?_,r⟩
  rw [hb.block g ?_];exact hh
  rcases Nat.lt_or_ge g w.heap.size with h' | h'
  ·exact h'
  ·rw [Array.getElem?_eq_none h'] at hh;cases hh
theorem OwnS.mono {w:World} {Bs Bs':Nat} {e:TypeId} {A:Option Addr} {n c:Nat} {xs:List Value} (h:OwnS w Bs e A n c xs) (hB:Bs'≤Bs):OwnS w Bs' e A n c xs:=by
 refine ⟨h.1,?_⟩
 rcases h.2 with h2 | ⟨g,cap,cur,hv,hg,r⟩
 ·exact .inl h2
 ·exact .inr ⟨g,cap,cur,hv,by omega,r⟩
theorem OwnS.alloc {w:World} {Bs:Nat} {e:TypeId} {A:Option Addr} {n c:Nat} {xs:List Value} (h:OwnS w Bs e A n c xs) (o:Obj):OwnS (w.alloc o) Bs e A n c xs :=
 h.below ((Below.refl _ _).alloc (Nat.le_refl _) _)
theorem OwnS.at_ {w:World} {Bs:Nat} {e:TypeId} {A:Option Addr} {n c:Nat} {xs:List Value} (h:OwnS w Bs e A n c xs) (h0:0<n) :
  ∃ g,A=some ⟨g,0,none⟩∧Bs≤g∧g<w.heap.size∧(∀ j,j<n→w.cell? ⟨g,j,none⟩=xs[j]?)∧∀ j,w.frozen? ⟨g,j,none⟩=false:=by
 rcases h.2 with ⟨hv,hn⟩ | ⟨g,cap,cur,hv,hg,hh,h1,_,_,h4⟩
 ·omega
 ·injection hv with hA _ hc
  subst hA;subst hc
  refine ⟨g,rfl,hg,?_,fun j hj=>World.ownsRow.cellAt h j (by omega),fun j=>World.ownsRow.frozenAt h j⟩
  rcases Nat.lt_or_ge g w.heap.size with h' | h'
  ·exact h'
  ·rw [Array.getElem?_eq_none h'] at hh;cases hh
theorem OwnS.stored {w:World} {Bs g:Nat} {e:TypeId} {n c:Nat} {xs:List Value} (h:OwnS w Bs e (some ⟨g,0,none⟩) n c xs) (j:Nat) (u:Value) :
  OwnS (w.setCell ⟨g,j,none⟩ u) Bs e (some ⟨g,0,none⟩) n c (xs.set j u):=(World.ownsRow.stored h j u).1
def Elem (P:Program) (t e:TypeId) (z:Value) (bytes:Nat):Prop :=
 P.underlying t=some (.slice e)∧(∃ i,P.info? e=some i∧i.zero=some z∧i.size=1∧i.bytes=bytes)∧z.cells.size=1
section
variable {P:Program} {ops:Array Oper} {rest:List Oper} {o:Oper} {a:Act} {Q:Exit→Act→World→Prop}
theorem wp_app1 {t e:TypeId} {z:Value} {bytes:Nat} (he:Elem P t e z bytes) (hgd:o.guard=none) (s x:Operand) (ho:o.op=.call { callee:=.builtin .append,args:=#[s,x],argTypes:=#[t,t] })
  (Bs:Nat) (A:Option Addr) (n c:Nat) (xs:List Value) (w:World) (u:Value) (hs:a.eval s=.slice A n c) (hown:OwnS w Bs e A n c xs)
  (hx:a.eval x=.slice (some ⟨w.heap.size,0,none⟩) 1 1) (h1:u.oneCell'=true) (h63:n+1≤maxLen) (hby:(n+1)*bytes≤140737488355328) (hbase:Bs≤w.heap.size)
  (h:∀ A' c' w',OwnS w' Bs e A' (n+1) c' (xs ++ [u])→Below Bs w w'→wpList P ops Q rest (a.put o.dst (.slice A' (n+1) c')) w') :
  wpList P ops Q (o :: rest) a (w.alloc (.cells #[u] e)):=by
 obtain ⟨ht,⟨i,hi,hz,hsz,hb⟩,hzs⟩:=he
 have hown':(w.alloc (.cells #[u] e)).ownsRow Bs e 1 (.slice A n c) n xs:=hown.alloc _
 refine wpList_append_own _ hgd s x t ho Bs e i z 1 bytes ht hi hz hsz hb hzs (by decide) _ n xs hs hown' ⟨w.heap.size,0,none⟩ 1 1 [u] hx rfl ?_ (by simpa using h1) h63 hby (by simp;omega) ?_
 ·intro j v hj
  match j,hj with
  |0,hj=>simp at hj;subst hj;simp [Addr.add]
 ·intro v' w' h2 h3 h4
  have hne:v'≠.slice none 0 0:=by intro e;have:=(h4.1 e).2;omega
  obtain ⟨g,cap,hv⟩:∃ g cap,v'=.slice (some ⟨g,0,none⟩) (n+1) cap:=by
   rcases h2.2 with ⟨hv,_⟩ | ⟨g,cap,cur,hv,_⟩
   ·exact absurd hv hne
   ·exact ⟨g,cap,hv⟩
  subst hv
  refine h _ _ _ h2 ?_
  refine ((Below.refl _ _).alloc hbase _).grown h3 (by simp;omega) ?_
  intro k hk
  rcases hown.2 with ⟨hv,_⟩ | ⟨g',cap',cur',hv,hg',_⟩
  ·rw [hv] at hk;simp [Value.ownBlock] at hk
  ·rw [hv] at hk;simp [Value.ownBlock] at hk;omega
theorem wp_mk0 {t e:TypeId} {z:Value} {bytes:Nat} (he:Elem P t e z bytes) (hgd:o.guard=none) (l c:Operand) (hop:o.op=Op.makeSlice t l c)
  (Bs:Nat) (w:World) (kl kc:IntKind) (C:Int) (n:Nat) (hl:a.eval l=.int kl 0) (hc:a.eval c=.int kc C) (hC:C=(n:Int)) (hby:bytes*n≤281474976710656) (h63:n≤maxLen) (hbase:Bs≤w.heap.size)
  (h:∀ A' w',OwnS w' Bs e A' 0 n []→Below Bs w w'→wpList P ops Q rest (a.put o.dst (.slice A' 0 n)) w') :
  wpList P ops Q (o :: rest) a w:=by
 obtain ⟨ht,⟨i,hi,hz,hsz,hb⟩,hzs⟩:=he
 refine wpList_make_own _ hgd l c t hop Bs e i z 1 ht hi hz hsz kl kc C n hl hc hC (by rw [hb];exact hby) h63 hbase ?_
 intro w' h1 h2
 exact h _ _ h1 ((Below.refl _ _).grown h2 hbase (fun k hk=>by cases hk))
theorem wp_mkn {t e:TypeId} {z:Value} {bytes:Nat} (he:Elem P t e z bytes) (hgd:o.guard=none) (l c:Operand) (hop:o.op=Op.makeSlice t l c)
  (Bs:Nat) (w:World) (kl kc:IntKind) (L C:Int) (n:Nat) (hl:a.eval l=.int kl L) (hc:a.eval c=.int kc C) (hL:L=(n:Int)) (hC:C=(n:Int)) (hby:bytes*n≤281474976710656) (h63:n≤maxLen) (hbase:Bs≤w.heap.size)
  (hz1:z.cells=#[z])
  (h:∀ A' w',OwnS w' Bs e A' n n (List.replicate n z)→Below Bs w w'→wpList P ops Q rest (a.put o.dst (.slice A' n n)) w') :
  wpList P ops Q (o :: rest) a w:=by
 obtain ⟨ht,⟨i,hi,hz,hsz,hb⟩,hzs⟩:=he
 refine wpList_make_full _ hgd l c t hop Bs e i z 1 ht hi hz hsz kl kc L C n hl hc hL hC (by rw [hb];exact hby) h63 hbase ?_
 intro w' h1 h2
 rw [hz1,Nat.mul_one,toList_madeCells_one] at h1
 exact h _ _ h1 ((Below.refl _ _).grown h2 hbase (fun k hk=>by cases hk))
end
theorem int_info:(Tryz.prog.info? 3).map (fun i=>(i.zero,i.size,i.bytes))=some (some (.int .i64 0),1,8):=by kernel_rfl
theorem el_number:Elem Tryz.prog 141 3 (.int .i64 0) 8:=⟨Tryz.underlying141,info_parts int_info,rfl⟩
section
variable {P:Program} {ops:Array Oper} {rest:List Oper} {o:Oper} {a:Act} {Q:Exit→Act→World→Prop}
theorem run_append_of_nil (w:World) (base:Nat) (t ty e:TypeId) (i:TypeInfo) (size:Nat) (ht:P.underlying t=some (.slice e)) (hi:P.info? e=some i)
  (v:Value) (n:Nat) (xs:List Value) (hown:w.ownsRow base e size v n xs) (c:Nat):(Builtin.append_ #[t,t] ty #[v,.slice none 0 c]).run P w=.ok v w:=by
 rcases hown.2 with ⟨rfl,rfl⟩ | ⟨g,cap,cur,rfl,_,_,hnc,_⟩
 ·simp [Builtin.append_,run_underlying ht,sizeOf,typeInfo,hi,Builtin.lenOf,Builtin.firstCells]
 ·simp [Builtin.append_,run_underlying ht,sizeOf,typeInfo,hi,Builtin.lenOf,Builtin.firstCells,hnc,storeCells]
theorem OwnS.form {w:World} {Bs:Nat} {e:TypeId} {v:Value} {n:Nat} {xs:List Value} (h:w.ownsRow Bs e 1 v n xs):∃ A c,v=.slice A n c∧OwnS w Bs e A n c xs:=by
 have h0:=h
 rcases h.2 with ⟨hv,hn⟩ | ⟨g,cap,cur,hv,_⟩
 ·subst hv;subst hn;exact ⟨none,0,rfl,h0⟩
 ·subst hv;exact ⟨_,_,rfl,h0⟩
theorem wp_appn {t e:TypeId} {z:Value} {bytes:Nat} (he:Elem P t e z bytes) (hgd:o.guard=none) (s x:Operand) (ho:o.op=.call { callee:=.builtin .append,args:=#[s,x],argTypes:=#[t,t] })
  (Bs:Nat) (A:Option Addr) (n c:Nat) (xs:List Value) (w:World) (A2:Option Addr) (m c2:Nat) (news:List Value) (hs:a.eval s=.slice A n c) (hown:OwnS w Bs e A n c xs)
  (hx:a.eval x=.slice A2 m c2) (hm:news.length=m) (hcell:Cells w A2 news) (h1:∀ u ∈ news,u.oneCell'=true) (h63:n+m≤maxLen) (hby:(n+m)*bytes≤140737488355328) (hbase:Bs≤w.heap.size)
  (h:∀ A' c' w',OwnS w' Bs e A' (n+m) c' (xs ++ news)→Below Bs w w'→wpList P ops Q rest (a.put o.dst (.slice A' (n+m) c')) w') :
  wpList P ops Q (o :: rest) a w:=by
 obtain ⟨ht,⟨i,hi,hz,hsz,hb⟩,hzs⟩:=he
 have hb0:∀ k,(Value.slice A n c).ownBlock=some k→Bs≤k:=by
  intro k hk
  rcases hown.2 with ⟨hv,_⟩ | ⟨g',cap',cur',hv,hg',_⟩
  ·rw [hv] at hk;simp [Value.ownBlock] at hk
  ·rw [hv] at hk;simp [Value.ownBlock] at hk;omega
 rcases A2 with _ | ad
 ·have hm0:m=0:=by
   rcases Nat.eq_zero_or_pos m with h0 | h0
   ·exact h0
   ·obtain ⟨b,off,hA,_⟩:=hcell (by omega);cases hA
  subst hm0
  have hn:news=[]:=List.eq_nil_of_length_eq_zero hm
  subst hn
  have hrun:=run_append_of_nil (P:=P) w Bs t o.type e i 1 ht hi (.slice A n c) n xs hown c2
  refine wpList_plain hgd fun K hK=>?_
  unfold Oper.wp execOp
  simp only [ho,resolve,invoke,builtin,Sem.run_bind,Sem.run_pure,Result.andThen_ok,List.map_toArray,List.map_cons,List.map_nil,hs,hx,hrun]
  exact hK _ _ (by have:=h A c w (by simpa using hown) (Below.refl _ _);simpa using this)
 ·refine wpList_append_own _ hgd s x t ho Bs e i z 1 bytes ht hi hz hsz hb hzs (by decide) _ n xs hs hown ad m c2 news hx (by omega) ?_ h1 h63 hby hbase ?_
  ·intro j u hj
   have hjl:j<news.length:=(List.getElem?_eq_some_iff.1 hj).1
   obtain ⟨b,off,hA,_,hc⟩:=hcell (by omega)
   injection hA with hA
   subst hA
   have:=hc j u hj
   unfold Addr.add
   split
   ·rename_i h0;subst h0;simpa using this
   ·simpa using this
  ·intro v' w' h2 h3 _
   obtain ⟨A',c',hv,hown'⟩:=OwnS.form h2
   subst hv
   exact h A' c' w' hown' ((Below.refl _ _).grown h3 hbase hb0)
theorem step_appn {K:Act→World→Prop} {E:Prop} {t e:TypeId} {z:Value} {bytes:Nat} (he:Elem P t e z bytes) (hgd:o.guard=none) (s x:Operand) (ho:o.op=.call { callee:=.builtin .append,args:=#[s,x],argTypes:=#[t,t] })
  (Bs:Nat) (A:Option Addr) (n c:Nat) (xs:List Value) (w:World) (ad:Addr) (m c2:Nat) (news:List Value) (hs:a.eval s=.slice A n c) (hown:OwnS w Bs e A n c xs)
  (hx:a.eval x=.slice (some ad) m c2) (hm:news.length=m) (hcell:Cells w (some ad) news) (h1:∀ u ∈ news,u.oneCell'=true) (h63:n+m≤maxLen) (hby:(n+m)*bytes≤140737488355328) (hbase:Bs≤w.heap.size)
  (hK:∀ A' c' w',OwnS w' Bs e A' (n+m) c' (xs ++ news)→Below Bs w w'→K (a.put o.dst (.slice A' (n+m) c')) w') :
  if Region.wanted o (yielded ops a.tmps)=true then Oper.wp P o a w K Q else E:=by
 obtain ⟨ht,⟨i,hi,hz,hsz,hb⟩,hzs⟩:=he
 have hw:Region.wanted o (yielded ops a.tmps)=true:=by simp [Region.wanted,hgd]
 rw [if_pos hw]
 have hb0:∀ k,(Value.slice A n c).ownBlock=some k→Bs≤k:=by
  intro k hk
  rcases hown.2 with ⟨hv,_⟩ | ⟨g',cap',cur',hv,hg',_⟩
  ·rw [hv] at hk;simp [Value.ownBlock] at hk
  ·rw [hv] at hk;simp [Value.ownBlock] at hk;omega
 have hc:∀ j u,news[j]? = some u→w.cell? (ad.add j)=some u:=by
  intro j u hj
  have hjl:j<news.length:=(List.getElem?_eq_some_iff.1 hj).1
  obtain ⟨b,off,hA,_,hc⟩:=hcell (by omega)
  injection hA with hA
  subst hA
  have:=hc j u hj
  unfold Addr.add
  split
  ·rename_i h0;subst h0;simpa using this
  ·simpa using this
 obtain ⟨v',w',hrun,r1,r2,_⟩:=run_append_own (P:=P) w Bs t o.type e i z 1 bytes ht hi hz hsz hb hzs (by decide) (.slice A n c) n xs hown ad m c2 news (by omega) hc h1 h63 hby hbase
 obtain ⟨A',c',hv,hown'⟩:=OwnS.form r1
 subst hv
 unfold Oper.wp
 simp [execOp,ho,resolve,invoke,builtin,hs,hx,hrun,Result.andThen]
 exact hK A' c' w' hown' ((Below.refl _ _).grown r2 hbase hb0)
theorem OwnS.lit (w:World) (e:TypeId) (cs:Array Value) (Bs n:Nat) (hB:Bs≤w.heap.size) (hs:cs.size=n) (hm:n≤maxLen):OwnS (w.alloc (.cells cs e)) Bs e (some ⟨w.heap.size,0,none⟩) n n cs.toList :=
 World.ownsRow_lit w cs n hB hm (by omega)
end
end Go.Proofs.YtljekdpgjaahjaaGreatDoor
namespace Go.Proofs.YtljekdpgjaahjaaGreatDoor
open Go.RowKit Num
set_option linter.unusedVariables false
attribute [local go_sem] B_size B_get B_toList B_mk B_extract B_append
attribute [local go_sem high] run_max2
theorem run_make_rowN {P:Program} (t e:TypeId) (i:TypeInfo) (z:Value) (ht:P.underlying t=some (.slice e)) (hi:P.info? e=some i) (hz:i.zero=some z)
  (kl kc:IntKind) (n c:Nat) (hnc:n≤c) (hbytes:i.bytes*c≤281474976710656) (h63:c≤9223372036854775807) (w:World) :
  (Instr.makeSlice t (.int kl (n:Int)) (.int kc (c:Int))).run P w=.ok (.slice (some ⟨w.heap.size,0,none⟩) n c) (w.alloc (.cells (madeCells z.cells (c*i.size)) e)):=by
 have hb:(i.bytes:Int)*(c:Int)≤281474976710656:=by
  have h:((i.bytes*c:Nat):Int)≤281474976710656:=by omega
  rwa [Int.natCast_mul] at h
 have hr:=run_make (P:=P) w t e i z ht hi hz kl kc n c (by omega) (by omega) hb (by omega)
 simp only [Int.toNat_natCast] at hr
 exact hr
theorem byte_info:(Tryz.prog.info? 5).map (fun i=>(i.zero,i.size,i.bytes))=some (some (.int .u8 0),1,1):=by kernel_rfl
theorem el_byte:Elem Tryz.prog 38 5 (.int .u8 0) 1:=⟨Tryz.underlying38,info_parts byte_info,rfl⟩
def zeros (n:Nat):Array Value:=madeCells #[.int .u8 0] n
theorem make_bytes (n:Nat) (hn:n≤1000000) (w:World) :
  (Instr.makeSlice 38 (.int .u16 (n:Int)) (.int .u16 (n:Int))).run Tryz.prog w=.ok (.slice (some ⟨w.heap.size,0,none⟩) n n) (w.alloc (.cells (zeros n) 5)):=by
 obtain ⟨i,hi,hz,hs,hb⟩:=info_parts byte_info
 have:=run_make_rowN (P:=Tryz.prog) 38 5 i (.int .u8 0) Tryz.underlying38 hi hz .u16 .u16 n n (Nat.le_refl _) (by rw [hb];omega) (by omega) w
 rw [hs,Nat.mul_one] at this
 exact this
def bytes (l:List UInt8):List Value:=l.map fun b=>Value.int .u8 (b.toNat:Int)
theorem bytes_length (l:List UInt8):(bytes l).length=l.length:=by simp [bytes]
theorem zeros_list (n:Nat):(zeros n).toList=bytes (List.replicate n 0):=by
 unfold zeros;rw [toList_madeCells_one];simp [bytes]
theorem zeros_size (n:Nat):(zeros n).size=n:=by
 have:=congrArg List.length (zeros_list n)
 rw [bytes_length,List.length_replicate,Array.length_toList] at this;exact this
theorem OwnS.zeros (w:World) (n Bs:Nat) (hB:Bs≤w.heap.size) (hn:n≤1000000):OwnS (w.alloc (.cells (zeros n) 5)) Bs 5 (some ⟨w.heap.size,0,none⟩) n n (bytes (List.replicate n 0)):=by
 have:=OwnS.lit w 5 (Go.Proofs.YtljekdpgjaahjaaGreatDoor.zeros n) Bs n hB (zeros_size n) (by unfold maxLen;omega)
 rw [zeros_list] at this
 exact this
theorem OwnS.setOther {w:World} {Bs:Nat} {e:TypeId} {g g' n c:Nat} {xs:List Value} (h:OwnS w Bs e (some ⟨g,0,none⟩) n c xs) (hne:g≠g') (j:Nat) (u:Value):OwnS (w.setCell ⟨g',j,none⟩ u) Bs e (some ⟨g,0,none⟩) n c xs:=by
 refine ⟨h.1,?_⟩
 rcases h.2 with h2 | ⟨g2,cap,cur,hv,hg,hh,r⟩
 ·exact .inl h2
 ·have hv0:=hv
  injection hv with hA _ _
  injection hA with hA
  injection hA with hA _ _
  subst hA
  exact .inr ⟨g,cap,cur,hv0,hg,by rw [Below.heap_setCell _ _ _ _ hne];exact hh,r⟩
theorem conv_bytes (g n c Bs:Nat) (l:List UInt8) (w:World) (hl:l.length=n) (h:OwnS w Bs 5 (some ⟨g,0,none⟩) n c (bytes l)) :
  (convert 38 9 (.slice (some ⟨g,0,none⟩) n c)).run Tryz.prog w=.ok (.string (B l)) w:=by
 have hc:∀ i,i<n→w.cell? ⟨g,0+i,none⟩=some (.int .u8 ((l.map fun b=>(b.toNat:Int)).getD i 0)):=by
  intro i hi
  have:=World.ownsRow.cellAt h i (by omega)
  rw [Nat.zero_add,this]
  simp [bytes,List.getElem?_eq_getElem (show i<l.length by omega)]
 have:=run_convert_bytes_arg (P:=Tryz.prog) (w:=w) 38 5 Tryz.underlying38 Tryz.underlying5 g 0 n c (l.map fun b=>(b.toNat:Int)) (by simpa using hl) hc 9 Tryz.underlying9
 have hmap:∀ l:List UInt8,(l.map fun b=>(b.toNat:Int)).map (fun n=>UInt8.ofNat n.toNat)=l:=by
  intro l
  rw [List.map_map]
  conv=>rhs;rw [← List.map_id l]
  apply List.map_congr_left
  intro x _
  simp
 have hs:strOfNums (l.map fun b=>(b.toNat:Int))=B l:=by
  unfold strOfNums B
  rw [hmap]
 rw [this,hs]
theorem wp_apps {ops:Array Oper} {rest:List Oper} {o:Oper} {a:Act} {Q:Exit→Act→World→Prop} (hgd:o.guard=none) (s x:Operand) (ho:o.op=.call { callee:=.builtin .append,args:=#[s,x],argTypes:=#[38,9] })
  (Bs:Nat) (A:Option Addr) (n c:Nat) (xs:List UInt8) (w:World) (l:List UInt8) (hs:a.eval s=.slice A n c) (hown:OwnS w Bs 5 A n c (bytes xs))
  (hx:a.eval x=.string (B l)) (h63:n+l.length≤140737488355328) (hbase:Bs≤w.heap.size)
  (h:∀ A' c' w',OwnS w' Bs 5 A' (n+l.length) c' (bytes (xs ++ l))→Below Bs w w'→wpList Tryz.prog ops Q rest (a.put o.dst (.slice A' (n+l.length) c')) w') :
  wpList Tryz.prog ops Q (o :: rest) a w:=by
 obtain ⟨i,hi,hz,hsz,hb⟩:=info_parts byte_info
 have hb0:∀ k,(Value.slice A n c).ownBlock=some k→Bs≤k:=by
  intro k hk
  rcases hown.2 with ⟨hv,_⟩ | ⟨g',cap',cur',hv,hg',_⟩
  ·rw [hv] at hk;simp [Value.ownBlock] at hk
  ·rw [hv] at hk;simp [Value.ownBlock] at hk;omega
 refine Lib.wpList_append_own_string w hgd s x 38 9 ho Bs 5 i Tryz.underlying38 Tryz.underlying9 hi hz hsz hb (.slice A n c) n (bytes xs) hs hown (B l) hx (by unfold maxLen;rw [B_size];omega) (by rw [B_size];omega) hbase ?_
 intro v' w' h2 h3 _
 rw [B_size] at h2
 obtain ⟨A',c',hv,hown'⟩:=OwnS.form h2
 subst hv
 have e:bytes xs ++ Lib.strCells (B l)=bytes (xs ++ l):=by simp [Lib.strCells,bytes,B]
 rw [e] at hown'
 exact h A' c' w' hown' ((Below.refl _ _).grown h3 hbase hb0)
end Go.Proofs.YtljekdpgjaahjaaGreatDoor

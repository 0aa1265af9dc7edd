/- Instances as they lie in memory. -/
import Derived.Test.YtjcekdiocliddaaGreatDoorG66
import Derived.Test.YtjcekdiocliddaaGreatDoorG55
import Derived.Test.YtjcekdiocliddaaGreatDoorG51
import Derived.Laws.AppendOwnNone
import Derived.WideShapes
namespace Go.Proofs.YtjcekdiocliddaaGreatDoor
open Go.RowKit Num Txt Pf Tk
set_option linter.unusedVariables false
def pntC (p:Int × Int):List Value:=[.int .i64 p.1,.int .i64 p.2]
theorem pntC_len (p:Int × Int):(pntC p).length=2:=rfl
def fits2 (p:Int × Int):Prop:=fits p.1∧fits p.2
structure ArcM where
 A:Option Addr
 ca:Nat
 C:Option Addr
 cc:Nat
 a:ArcV
def ArcM.cells (m:ArcM):List Value:=[.int .i64 m.a.frm,.int .i64 m.a.tgt,.int .i64 m.a.prof,.int .i64 m.a.miles,.slice m.A m.a.trav.length m.ca,.slice m.C m.a.slow.length m.cc]
theorem ArcM.cells_len (m:ArcM):m.cells.length=6:=rfl
structure ArcAt (w:World) (m:ArcM):Prop where
 trav:Cells w m.A (m.a.trav.flatMap pntC)
 slow:Cells w m.C (m.a.slow.flatMap pntC)
 tl:m.a.trav.length≤m.ca∧m.ca≤maxLen
 sl:m.a.slow.length≤m.cc∧m.cc≤maxLen
 travF:∀ p ∈ m.a.trav,fits2 p
 slowF:∀ p ∈ m.a.slow,fits2 p
 frm:fits m.a.frm
 tgt:fits m.a.tgt
 prof:fits m.a.prof
 miles:fits m.a.miles
theorem ArcAt.below {w w':World} {m:ArcM} (h:ArcAt w m) (hb:Below w.heap.size w w'):ArcAt w' m:=⟨h.trav.below hb,h.slow.below hb,h.tl,h.sl,h.travF,h.slowF,h.frm,h.tgt,h.prof,h.miles⟩
structure TypeM where
 A:Option Addr
 ca:Nat
 t:TypeV
def TypeM.cells (m:TypeM):List Value:=[.string (B m.t.name),.int .i64 m.t.count,.int .i64 m.t.frm,.int .i64 m.t.tgt,.slice m.A m.t.cap.length m.ca,.int .i64 m.t.skills,.int .i64 m.t.prof,.int .i64 m.t.opn,.int .i64 m.t.cls,.int .i64 m.t.drive,.int .i64 m.t.rest,.int .i64 m.t.fixed,.int .i64 m.t.mile,.int .i64 m.t.tick]
theorem TypeM.cells_len (m:TypeM):m.cells.length=14:=rfl
structure TypeF (t:TypeV):Prop where
 name:t.name.length≤maxLen
 count:fits t.count
 frm:fits t.frm
 tgt:fits t.tgt
 skills:fits t.skills
 prof:fits t.prof
 opn:fits t.opn
 cls:fits t.cls
 drive:fits t.drive
 rest:fits t.rest
 fixed:fits t.fixed
 mile:fits t.mile
 tick:fits t.tick
structure TypeAt (w:World) (m:TypeM):Prop where
 cap:Cells w m.A (ints m.t.cap)
 cl:m.t.cap.length≤m.ca∧m.ca≤maxLen
 capF:∀ n ∈ m.t.cap,fits n
 f:TypeF m.t
theorem TypeAt.below {w w':World} {m:TypeM} (h:TypeAt w m) (hb:Below w.heap.size w w'):TypeAt w' m:=⟨h.cap.below hb,h.cl,h.capF,h.f⟩
structure StopF (s:StopV):Prop where
 place:fits s.place
 opn:fits s.opn
 cls:fits s.cls
 serv:fits s.serv
def stopC (s:StopV):List Value:=[.int .i64 s.place,.int .i64 s.opn,.int .i64 s.cls,.int .i64 s.serv]
theorem stopC_len (s:StopV):(stopC s).length=4:=rfl
structure OrdM where
 A:Option Addr
 ca:Nat
 o:OrdV
def OrdM.cells (m:OrdM):List Value:=[.string (B m.o.name),.slice m.A m.o.load.length m.ca,.int .i64 m.o.pick.place,.int .i64 m.o.pick.opn,.int .i64 m.o.pick.cls,.int .i64 m.o.pick.serv,.int .i64 m.o.drop.place,.int .i64 m.o.drop.opn,.int .i64 m.o.drop.cls,.int .i64 m.o.drop.serv,.int .i64 m.o.skills,.int .i64 m.o.pen,.int .i64 m.o.split,.int .i64 m.o.last,.int .i64 m.o.now,.bool m.o.off]
theorem OrdM.cells_len (m:OrdM):m.cells.length=16:=rfl
structure OrdAt (w:World) (m:OrdM):Prop where
 load:Cells w m.A (ints m.o.load)
 ll:m.o.load.length≤m.ca∧m.ca≤maxLen
 loadF:∀ n ∈ m.o.load,fits n
 name:m.o.name.length≤maxLen
 pick:StopF m.o.pick
 drop:StopF m.o.drop
 skills:fits m.o.skills
 pen:fits m.o.pen
 split:fits m.o.split
 last:fits m.o.last
 now:fits m.o.now
theorem OrdAt.below {w w':World} {m:OrdM} (h:OrdAt w m) (hb:Below w.heap.size w w'):OrdAt w' m:=⟨h.load.below hb,h.ll,h.loadF,h.name,h.pick,h.drop,h.skills,h.pen,h.split,h.last,h.now⟩
structure InsM where
 pA:Option Addr
 pc:Nat
 places:List Str
 aA:Option Addr
 ac:Nat
 arcs:List ArcM
 tA:Option Addr
 tc:Nat
 types:List TypeM
 oA:Option Addr
 oc:Nat
 ords:List OrdM
 xA:Option Addr
 xc:Nat
 apart:List (Int × Int)
 bA:Option Addr
 bc:Nat
 before:List (Int × Int)
abbrev insA (m:InsM):Value:=.agg #[.slice m.pA m.places.length m.pc,.slice m.aA m.arcs.length m.ac,.slice m.tA m.types.length m.tc,.slice m.oA m.ords.length m.oc,.slice m.xA m.apart.length m.xc,.slice m.bA m.before.length m.bc]
def InsM.v (m:InsM):InsV:=⟨m.places,m.arcs.map (·.a),m.types.map (·.t),m.ords.map (·.o),m.apart,m.before⟩
structure InsAt (w:World) (m:InsM):Prop where
 places:Cells w m.pA (strs m.places)
 arcs:Cells w m.aA (m.arcs.flatMap ArcM.cells)
 types:Cells w m.tA (m.types.flatMap TypeM.cells)
 ords:Cells w m.oA (m.ords.flatMap OrdM.cells)
 apart:Cells w m.xA (m.apart.flatMap pntC)
 before:Cells w m.bA (m.before.flatMap pntC)
 arcE:∀ a ∈ m.arcs,ArcAt w a
 typeE:∀ t ∈ m.types,TypeAt w t
 ordE:∀ o ∈ m.ords,OrdAt w o
 pl:m.places.length≤m.pc∧m.pc≤maxLen
 al:m.arcs.length≤m.ac∧m.ac≤maxLen
 tl:m.types.length≤m.tc∧m.tc≤maxLen
 ol:m.ords.length≤m.oc∧m.oc≤maxLen
 xl:m.apart.length≤m.xc∧m.xc≤maxLen
 bl:m.before.length≤m.bc∧m.bc≤maxLen
 placeF:∀ s ∈ m.places,s.length≤maxLen
 apartF:∀ p ∈ m.apart,fits2 p
 beforeF:∀ p ∈ m.before,fits2 p
theorem InsAt.below {w w':World} {m:InsM} (h:InsAt w m) (hb:Below w.heap.size w w'):InsAt w' m:=⟨h.places.below hb,h.arcs.below hb,h.types.below hb,h.ords.below hb,h.apart.below hb,h.before.below hb,fun a ha=>(h.arcE a ha).below hb,fun a ha=>(h.typeE a ha).below hb,fun a ha=>(h.ordE a ha).below hb,h.pl,h.al,h.tl,h.ol,h.xl,h.bl,h.placeF,h.apartF,h.beforeF⟩
attribute [local go_sem] B_size B_get B_toList B_mk B_extract B_append
theorem elemsP {α:Type} {f:α→List Value} {k:Nat} (hf:∀ x,(f x).length=k) (hk:0<k) {w:World} {A:Option Addr} {l:List α} (h:Cells w A (l.flatMap f)) (h0:0<l.length) :
  ∃ b off,A=some ⟨b,off,none⟩∧b<w.heap.size∧∀ i (hi:i<l.length) j v,(f l[i])[j]? = some v→w.cell? ⟨b,off+i*k+j,none⟩=some v:=by
 obtain ⟨b,off,e,hb,hc⟩:=h (by rw [flat_length f hf];exact Nat.mul_pos h0 hk)
 refine ⟨b,off,e,hb,fun i hi j v hv=>?_⟩
 have hj:j<k:=by rw [← hf l[i]];exact (List.getElem?_eq_some_iff.1 hv).1
 rw [Nat.add_assoc]
 exact hc _ _ (by rw [flat_get f hf l i hi j hj];exact hv)
def faultC (f:Int × Str):List Value:=[.int .i64 f.1,.string (B f.2)]
theorem faultC_len (f:Int × Str):(faultC f).length=2:=rfl
theorem flt_info:(Tryz.prog.info? 193).map (fun i=>(i.zero,i.size,i.bytes))=some (some (.agg #[.int .i64 0,.string (B [])]),2,24):=by kernel_rfl
theorem el_flt:ElemR Tryz.prog 67 193 (.agg #[.int .i64 0,.string (B [])]) 2 24:=⟨Tryz.underlying67,info_parts flt_info,rfl,by decide⟩
theorem err_info:(Tryz.prog.info? 42).map (fun i=>(i.zero,i.size,i.bytes))=some (some (.int .i64 0),1,8):=by kernel_rfl
theorem el_err:ElemR Tryz.prog 195 42 (.int .i64 0) 1 8:=⟨Tryz.underlying195,info_parts err_info,rfl,by decide⟩
abbrev FlO (w:World) (Bs:Nat) (A:Option Addr) (c:Nat) (fs:List (Int × Str)):Prop:=OwnR w Bs 193 2 A fs.length c (fs.flatMap faultC)
def FlS (K:Nat) (fs:List (Int × Str)):Prop:=∀ f ∈ fs,f.2.length≤K∧fits f.1
def FlE (n K:Nat) (ok:Prop) (w:World) (e:Ending) (w':World):Prop:=∃ (A:Option Addr) (c:Nat) (fs:List (Int × Str)),e=.returned (.slice A fs.length c)∧FlO w' w.heap.size A c fs∧FlS K fs∧fs.length≤n∧(fs=[]→ok)∧Below w.heap.size w w'
theorem FlO.snoc {fs:List (Int × Str)} {e:Int} {s:Str}:fs.flatMap faultC ++ [Value.int .i64 e,.string (B s)]=(fs ++ [(e,s)]).flatMap faultC:=flat_snoc faultC fs (e,s)
theorem ownr_slice {w:World} {Bs sz:Nat} {e:TypeId} {v:Value} {n:Nat} {xs:List Value} (h:w.ownsRow Bs e sz v n xs):∃ A c,v=.slice A n c:=by
 rcases h.2 with ⟨hv,hn⟩ | ⟨g,cap,cur,hv,_⟩
 ·exact ⟨none,0,by rw [hv,hn]⟩
 ·exact ⟨_,_,hv⟩
theorem OwnR.rowb {w:World} {Bs sz:Nat} {e:TypeId} {A:Option Addr} {n c:Nat} {xs:List Value} (h:OwnR w Bs e sz A n c xs):∀ k,(Value.slice A n c).ownBlock=some k→Bs≤k:=by
 intro k hk
 rcases h.2 with ⟨hv,_⟩ | ⟨g',cap',cur',hv,hg',_⟩
 ·rw [hv] at hk;simp [Value.ownBlock] at hk
 ·rw [hv] at hk;simp [Value.ownBlock] at hk;omega
section
variable {P:Program} {ops:Array Oper} {rest:List Oper} {o:Oper} {a:Act} {Q:Exit→Act→World→Prop}
theorem wp_appmR {t e:TypeId} {z:Value} {sz bytes:Nat} (he:ElemR P t e z sz bytes) (hgd:o.guard=none) (s x:Operand) (ho:o.op=.call { callee:=.builtin .append,args:=#[s,x],argTypes:=#[t,t] })
  (Bs:Nat) (A:Option Addr) (n c:Nat) (xs:List Value) (w:World) (X:Option Addr) (m cx:Nat) (news:List Value) (hs:a.eval s=.slice A n c) (hown:OwnR w Bs e sz A n c xs)
  (hx:a.eval x=.slice X m cx) (hX:Cells w X news) (hX0:X=none→cx=0) (hm:news.length=m*sz) (h1:∀ u ∈ news,u.oneCell'=true) (h63:n+m≤maxLen) (hby:(n+m)*bytes≤140737488355328) (hbase:Bs≤w.heap.size)
  (h:∀ A' c' w',OwnR w' Bs e sz A' (n+m) c' (xs ++ news)→Below Bs w w'→wpList P ops Q rest (a.put o.dst (.slice A' (n+m) c')) w') :
  wpList P ops Q (o :: rest) a w:=by
 obtain ⟨ht,⟨i,hi,hz,hsz,hb⟩,hzs,hpos⟩:=he
 cases X with
 |none =>
  have hv:news=[]:=by
   cases news with
   |nil=>rfl
   |cons x xs=>obtain ⟨b,off,e,_⟩:=hX (by simp);cases e
  have hcx:=hX0 rfl
  subst hcx hv
  obtain rfl:m=0:=by
   rcases Nat.eq_zero_or_pos m with h | h
   ·exact h
   ·have:=Nat.mul_pos h hpos;simp at hm;omega
  refine wpList_append_own_none hgd s x t ho Bs e i sz ht hi (.slice A n c) n xs hs hown hx ?_
  exact h A c w (by rw [List.append_nil];exact hown) (Below.refl _ _)
 |some ad =>
  by_cases h0:0<news.length
  ·have hcell:∀ j u,news[j]? = some u→w.cell? (ad.add j)=some u:=by
    intro j u hu
    obtain ⟨b,off,e,hb,h2⟩:=hX h0
    injection e with e
    subst e
    rw [Go.WideShapes.add_plain]
    exact h2 j u hu
   refine wpList_append_own _ hgd s x t ho Bs e i z sz bytes ht hi hz hsz hb hzs hpos (.slice A n c) n xs hs hown ad m cx news hx hm hcell h1 h63 hby hbase ?_
   intro v' w' h2 h3 _
   obtain ⟨A2,c2,rfl⟩:=ownr_slice h2
   exact h A2 c2 w' h2 ((Below.refl _ _).grown h3 hbase hown.rowb)
  ·have hv:news=[]:=List.length_eq_zero_iff.1 (by omega)
   subst hv
   refine wpList_append_own _ hgd s x t ho Bs e i z sz bytes ht hi hz hsz hb hzs hpos (.slice A n c) n xs hs hown ad m cx [] hx hm (fun j u hu=>by simp at hu) h1 h63 hby hbase ?_
   intro v' w' h2 h3 _
   obtain ⟨A2,c2,rfl⟩:=ownr_slice h2
   exact h A2 c2 w' h2 ((Below.refl _ _).grown h3 hbase hown.rowb)
end
theorem cells2 {w:World} {g:Nat} {a b:Value} {e:TypeId} {z:Nat × Nat} (h:w.heap[g]? = some (.cells #[a,b] e z)):w.cell? ⟨g,0,none⟩=some a∧w.cell? ⟨g,1,none⟩=some b:=⟨by simp [World.cell?,h],by simp [World.cell?,h]⟩
theorem flt_one {l:List (Int × Str)}:∀ u ∈ l.flatMap faultC,u.oneCell'=true:=by
 intro u hu
 obtain ⟨f,_,hf⟩:=List.mem_flatMap.1 hu
 unfold faultC at hf
 simp only [List.mem_cons,List.not_mem_nil,or_false] at hf
 rcases hf with rfl | rfl <;> rfl
theorem flt_len (l:List (Int × Str)):(l.flatMap faultC).length=l.length*2:=flat_length faultC faultC_len l
section
variable {P:Program} {ops:Array Oper} {rest:List Oper} {o:Oper} {a:Act} {Q:Exit→Act→World→Prop}
theorem wp_flt {t e:TypeId} {z:Value} {sz bytes:Nat} (he:ElemR P t e z sz bytes) (hgd:o.guard=none) (s x:Operand) (ho:o.op=.call { callee:=.builtin .append,args:=#[s,x],argTypes:=#[t,t] }) (het:e=193) (hsz:sz=2) (hby:bytes=24)
  (Bs:Nat) (A:Option Addr) (c:Nat) (fs:List (Int × Str)) (w:World) (k:Int) (str:Str) (hs:a.eval s=.slice A fs.length c) (hown:FlO w Bs A c fs)
  (hx:a.eval x=.slice (some ⟨w.heap.size,0,none⟩) 1 1) (hl:fs.length≤1099511627776) (hbase:Bs≤w.heap.size)
  (h:∀ A' c' w',FlO w' Bs A' c' (fs ++ [(k,str)])→Below Bs w w'→KpA A w w'→wpList P ops Q rest (a.put o.dst (.slice A' (fs ++ [(k,str)]).length c')) w') :
  wpList P ops Q (o :: rest) a (w.alloc (.cells #[.int .i64 k,.string (B str)] e)):=by
 subst het hsz hby
 refine wp_appk he hgd s x ho Bs A fs.length c (fs.flatMap faultC) w #[.int .i64 k,.string (B str)] hs hown hx rfl (by intro u hu;simp at hu;rcases hu with rfl | rfl <;> rfl) (by unfold maxLen;omega) (by omega) hbase ?_
 intro A' c' w' h1 h2 h3
 have hlen:(fs ++ [(k,str)]).length=fs.length+1:=by rw [List.length_append];rfl
 have h4:=h A' c' w' (by show OwnR _ _ _ _ _ _ _ _;rw [hlen,← FlO.snoc];exact h1) h2 h3
 rw [hlen] at h4
 exact h4
end
theorem FlS.nil {K:Nat}:FlS K []:=fun _ h=>absurd h (by simp)
theorem FlS.snoc {K:Nat} {fs:List (Int × Str)} {e:Int} {s:Str} (h:FlS K fs) (hs:s.length≤K) (he:fits e):FlS K (fs ++ [(e,s)]):=fun f hf=>by
 rcases List.mem_append.1 hf with h1 | h1
 ·exact h f h1
 ·rw [List.mem_singleton.1 h1];exact ⟨hs,he⟩
theorem FlS.app {K:Nat} {fs gs:List (Int × Str)} (h:FlS K fs) (h2:FlS K gs):FlS K (fs ++ gs):=fun f hf=>by
 rcases List.mem_append.1 hf with h1 | h1
 ·exact h f h1
 ·exact h2 f h1
theorem FlS.mono {K K':Nat} {fs:List (Int × Str)} (h:FlS K fs) (hk:K≤K'):FlS K' fs:=fun f hf=>⟨Nat.le_trans (h f hf).1 hk,(h f hf).2⟩
theorem flt_type:193≠74:=by decide
theorem snoc_ne {α:Type} {l:List α} {x:α} {p:Prop}:l ++ [x]=[]→p:=fun h=>absurd h (by simp)
theorem snoc_len {α:Type} (l:List α) (x:α):(l ++ [x]).length=l.length+1:=by simp
end Go.Proofs.YtjcekdiocliddaaGreatDoor
namespace Go.Proofs.YtjcekdiocliddaaGreatDoor
open Go.RowKit Num Txt Pf Tk
set_option linter.unusedVariables false
def timeC (t:TimeV):List Value:=[.int .i64 t.arr,.int .i64 t.beg,.int .i64 t.dep,.bool t.rest]
theorem timeC_len (t:TimeV):(timeC t).length=4:=rfl
def TmAt (w:World) (A:Option Addr) (c:Nat) (ts:List TimeV):Prop:=Cells w A (ts.flatMap timeC)∧(ts.length≤c∧c≤maxLen)∧(∀ a,A=some a→∃ cur,w.heap[a.block]? = some (.cells cur 158))∧(A=none→c=0)
theorem TmAt.below {w w':World} {A:Option Addr} {c:Nat} {ts:List TimeV} (h:TmAt w A c ts) (hb:Below w.heap.size w w'):TmAt w' A c ts:=⟨h.1.below hb,h.2.1,fun a ha=>by obtain ⟨cur,hc⟩:=h.2.2.1 a ha;exact ⟨cur,row_keep hc hb⟩,h.2.2.2⟩
theorem TmAt.nil (w:World):TmAt w none 0 []:=⟨fun h=>absurd h (by simp),by simp,fun a h=>(by cases h),fun _=>rfl⟩
theorem TmAt.keep {w w':World} {A:Option Addr} {c:Nat} {ts:List TimeV} (h:TmAt w A c ts) {g:Nat} {old:Array Value} {t:TypeId} (hg:w.heap[g]? = some (.cells old t)) (ht:t≠158) (hs:w.heap.size≤w'.heap.size) (hk:∀ k,k<w.heap.size→k≠g→w'.heap[k]? = w.heap[k]?):TmAt w' A c ts:=by
 obtain ⟨h1,h2,h3,h4⟩:=h
 have hne:∀ a,A=some a→w'.heap[a.block]? = w.heap[a.block]? := fun a ha=>by
  obtain ⟨cur,hc⟩:=h3 a ha
  refine hk _ (lt_heap hc) (fun e=>?_)
  rw [e,hg] at hc
  injection hc with hc
  injection hc with _ hc _
  exact ht hc
 refine ⟨fun h0=>?_,h2,fun a ha=>?_,h4⟩
 ·obtain ⟨b,off,e,hb,hx⟩:=h1 h0
  refine ⟨b,off,e,Nat.lt_of_lt_of_le hb hs,fun j v hv=>?_⟩
  rw [← hx j v hv]
  exact World.cell?_of_block (w:=w) (w':=w') (a:=⟨b,off+j,none⟩) (show w'.heap[b]? = w.heap[b]? from hne ⟨b,off,none⟩ e)
 ·obtain ⟨cur,hc⟩:=h3 a ha
  exact ⟨cur,(hne a ha).trans hc⟩
abbrev sheetR (A:Option Addr) (c:Nat) (s:SheetV):Array Value:=#[.bool s.rest,.int .i64 s.dep,.slice A s.times.length c,.int .i64 s.fin,.int .i64 s.miles]
abbrev sheetA (A:Option Addr) (c:Nat) (s:SheetV):Value:=.agg #[.bool s.rest,.int .i64 s.dep,.slice A s.times.length c,.int .i64 s.fin,.int .i64 s.miles]
structure LabM where
 A:Option Addr
 c:Nat
 l:LabV
def LabM.cells (m:LabM):List Value:=[.int .i64 m.l.ready,.int .i64 m.l.since,.bool m.l.sh.rest,.int .i64 m.l.sh.dep,.slice m.A m.l.sh.times.length m.c,.int .i64 m.l.sh.fin,.int .i64 m.l.sh.miles]
theorem LabM.cells_len (m:LabM):m.cells.length=7:=rfl
abbrev labA (A:Option Addr) (c:Nat) (l:LabV):Value:=.agg #[.int .i64 l.ready,.int .i64 l.since,.bool l.sh.rest,.int .i64 l.sh.dep,.slice A l.sh.times.length c,.int .i64 l.sh.fin,.int .i64 l.sh.miles]
def LabAt (w:World) (m:LabM):Prop:=TmAt w m.A m.c m.l.sh.times
theorem LabAt.below {w w':World} {m:LabM} (h:LabAt w m) (hb:Below w.heap.size w w'):LabAt w' m:=TmAt.below h hb
structure TripM where
 m:InsM
 t:TypeM
 r:RouM
 A:Option Addr
 c:Nat
 stops:List StopV
def TripM.v (q:TripM):TripV:=⟨q.m.v,q.t.t,q.r.r,q.stops⟩
def tripR (q:TripM):Array Value:=#[.slice q.m.pA q.m.places.length q.m.pc,.slice q.m.aA q.m.arcs.length q.m.ac,.slice q.m.tA q.m.types.length q.m.tc,.slice q.m.oA q.m.ords.length q.m.oc,.slice q.m.xA q.m.apart.length q.m.xc,.slice q.m.bA q.m.before.length q.m.bc,
 .string (B q.t.t.name),.int .i64 q.t.t.count,.int .i64 q.t.t.frm,.int .i64 q.t.t.tgt,.slice q.t.A q.t.t.cap.length q.t.ca,.int .i64 q.t.t.skills,.int .i64 q.t.t.prof,.int .i64 q.t.t.opn,.int .i64 q.t.t.cls,.int .i64 q.t.t.drive,.int .i64 q.t.t.rest,.int .i64 q.t.t.fixed,.int .i64 q.t.t.mile,.int .i64 q.t.t.tick,
 .int .i64 q.r.r.kind,.int .i64 q.r.r.start,.slice q.r.A q.r.r.rests.length q.r.ca,.slice q.r.C q.r.r.vis.length q.r.cc,.slice q.A q.stops.length q.c]
abbrev tripA (q:TripM):Value:=.agg #[.slice q.m.pA q.m.places.length q.m.pc,.slice q.m.aA q.m.arcs.length q.m.ac,.slice q.m.tA q.m.types.length q.m.tc,.slice q.m.oA q.m.ords.length q.m.oc,.slice q.m.xA q.m.apart.length q.m.xc,.slice q.m.bA q.m.before.length q.m.bc,
 .string (B q.t.t.name),.int .i64 q.t.t.count,.int .i64 q.t.t.frm,.int .i64 q.t.t.tgt,.slice q.t.A q.t.t.cap.length q.t.ca,.int .i64 q.t.t.skills,.int .i64 q.t.t.prof,.int .i64 q.t.t.opn,.int .i64 q.t.t.cls,.int .i64 q.t.t.drive,.int .i64 q.t.t.rest,.int .i64 q.t.t.fixed,.int .i64 q.t.t.mile,.int .i64 q.t.t.tick,
 .int .i64 q.r.r.kind,.int .i64 q.r.r.start,.slice q.r.A q.r.r.rests.length q.r.ca,.slice q.r.C q.r.r.vis.length q.r.cc,.slice q.A q.stops.length q.c]
structure TripAt (w:World) (q:TripM):Prop where
 m:InsAt w q.m
 t:TypeAt w q.t
 r:RouAt w q.r
 stops:Cells w q.A (q.stops.flatMap stopC)
 sl:q.stops.length≤q.c∧q.c≤maxLen
 is:PlanIs q.m.v q.r.r q.v
 ok:InsOK q.m.v
theorem TripAt.below {w w':World} {q:TripM} (h:TripAt w q) (hb:Below w.heap.size w w'):TripAt w' q:=⟨h.m.below hb,h.t.below hb,h.r.below hb,h.stops.below hb,h.sl,h.is,h.ok⟩
theorem TripAt.trip {w:World} {q:TripM} (h:TripAt w q):TripOK q.v:=h.is.ok h.ok
theorem stp_info:(Tryz.prog.info? 134).map (fun i=>(i.zero,i.size,i.bytes))=some (some (.agg #[.int .i64 0,.int .i64 0,.int .i64 0,.int .i64 0]),4,32):=by kernel_rfl
theorem el_stp:ElemR Tryz.prog 82 134 (.agg #[.int .i64 0,.int .i64 0,.int .i64 0,.int .i64 0]) 4 32:=⟨Tryz.underlying82,info_parts stp_info,rfl,by decide⟩
theorem tm_info:(Tryz.prog.info? 158).map (fun i=>(i.zero,i.size,i.bytes))=some (some (.agg #[.int .i64 0,.int .i64 0,.int .i64 0,.bool false]),4,32):=by kernel_rfl
theorem el_tm:ElemR Tryz.prog 37 158 (.agg #[.int .i64 0,.int .i64 0,.int .i64 0,.bool false]) 4 32:=⟨Tryz.underlying37,info_parts tm_info,rfl,by decide⟩
theorem lab_info:(Tryz.prog.info? 150).map (fun i=>(i.zero,i.size,i.bytes))=some (some (.agg #[.int .i64 0,.int .i64 0,.bool false,.int .i64 0,.slice none 0 0,.int .i64 0,.int .i64 0]),7,72):=by kernel_rfl
theorem el_lab:ElemR Tryz.prog 152 150 (.agg #[.int .i64 0,.int .i64 0,.bool false,.int .i64 0,.slice none 0 0,.int .i64 0,.int .i64 0]) 7 72:=⟨Tryz.underlying152,info_parts lab_info,rfl,by decide⟩
end Go.Proofs.YtjcekdiocliddaaGreatDoor

/- simplex: the tableau's reckoning without an error. -/
import Derived.Test.YtmppmdmekomjbaaGreatDoorG32
import Derived.Test.YtmppmdmekomjbaaGreatDoorG48
import Derived.Test.YtmppmdmekomjbaaGreatDoorRProg8
import Derived.Test.YtmppmdmekomjbaaGreatDoorRRef4
import Derived.Test.YtmppmdmekomjbaaGreatDoorG20
import Derived.Test.YtmppmdmekomjbaaGreatDoorG19
import Derived.Deep.RegionHeld3
import Derived.Laws.Cover3
namespace Go.Proofs.YtmppmdmekomjbaaGreatDoor
open Go.RowKit Num
set_option linter.unusedVariables false
attribute [local go_sem] B_size B_get B_toList B_mk B_extract B_append
theorem modify_same {w:World} {g:Nat} {f:Obj→Obj} (h:∀ o,w.heap[g]? = some o→f o=o):({ w with heap:=w.heap.modify g f }:World)=w:=by
 have:w.heap.modify g f=w.heap:=by
  apply Array.ext
  ·simp
  ·intro k h1 h2
   rw [Array.getElem_modify]
   split
   ·rename_i e
    subst e
    exact h _ (Array.getElem?_eq_getElem h2)
   ·rfl
 rw [this]
theorem setCell_same {w:World} {g i:Nat} {v:Value} (h:w.cell? ⟨g,i,none⟩=some v):w.setCell ⟨g,i,none⟩ v=w:=by
 unfold World.setCell
 refine modify_same fun o ho=>?_
 unfold World.cell? at h
 simp only [ho] at h
 cases o with
 | cells c e f =>
  simp at h
  have hc:c.setIfInBounds i v=c:=by
   apply Array.ext_getElem?
   intro j
   rw [Array.getElem?_setIfInBounds]
   split
   ·rename_i e;subst e;split
    ·exact h.symm
    ·rename_i h2;rw [Array.getElem?_eq_none (by omega)] at h;cases h
   ·rfl
  simp [hc]
 | _=>rfl
structure ErrAt (w:World) (kt:Nat):Prop where
 cell:w.cell? ⟨kt,7,none⟩=some (.int .i64 0)
 free:w.frozen? ⟨kt,7,none⟩=false
 lt:kt<w.heap.size
theorem ErrAt.below {w w':World} {kt:Nat} (h:ErrAt w kt) (hb:Below w.heap.size w w'):ErrAt w' kt :=
 ⟨(hb.cell (p:=⟨kt,7,none⟩) h.lt).trans h.cell,(hb.frozen (p:=⟨kt,7,none⟩) h.lt).trans h.free,Nat.lt_of_lt_of_le h.lt hb.size⟩
theorem sxnote_any (kt:Nat) (w:World) (hk:ErrAt w kt) :
  Calls Tryz.prog 33 #[.pointer (some ⟨kt,0,none⟩),.int .i64 0] w fun e w'=>e=.returned (.tuple #[])∧w'=w:=by
 have h1:=hk.cell
 have h2:=hk.free
 have HS:=Lib.hid (setCell_same h1)
 go_enter Tryz.func33,Tryz.ntmps33
 go_wp2_with fail
 go_end0
 exact ⟨rfl,HS.out⟩
theorem sxmul_any (kt:Nat) (a b:Str) (w:World) (ha:a.length≤1000000) (hb:b.length≤1000000) (h0:mulQE a b=0) (hz:a=[48]∨b=[48]→mulQS a b=[48]) (hk:ErrAt w kt) (he:Env w) :
  Calls Tryz.prog 65 #[.pointer (some ⟨kt,0,none⟩),.string (B a),.string (B b)] w fun e w'=>e=.returned (.string (B (mulQS a b)))∧Below w.heap.size w w':=by
 have HQ:=Lib.hid (qmul_any a b w ha hb he)
 rw [h0] at HQ
 have HZ:=Lib.hid hz
 have HK:=Lib.hid hk
 clear h0 hz hk
 generalize mulQS a b=v at *
 go_enter Tryz.func65,Tryz.ntmps65
 simp only [B_mk]
 by_cases h1:a=[48]
 ·have HV:=Lib.hid (HZ.out (.inl h1))
  subst h1
  go_wp2_with fail
  go_ret
  exact ⟨by rw [HV.out];rfl,Below.refl _ _⟩
 ·have h1':(a == [48])=false:=by simpa using h1
  by_cases h2:b=[48]
  ·have HV:=Lib.hid (HZ.out (.inr h2))
   subst h2
   clear h1
   go_wp2_with fail
   go_ret
   exact ⟨by rw [HV.out];rfl,Below.refl _ _⟩
  ·have h2':(b == [48])=false:=by simpa using h2
   clear h1 h2
   go_wp2_with fail
   refine HQ.out.mono ?_
   rintro e w1 ⟨rfl,hb1⟩
   go_wp2_with fail
   refine (sxnote_any kt w1 (HK.out.below hb1)).mono ?_
   rintro e w2 ⟨rfl,rfl⟩
   go_wp2_with fail
   go_ret
   exact ⟨rfl,hb1⟩
theorem sxsub_any (kt:Nat) (a b:Str) (w:World) (ha:a.length≤1000000) (hb:b.length≤1000000) (h0:subQE a b=0) (hz:b=[48]→subQS a b=a) (hk:ErrAt w kt) (he:Env w) :
  Calls Tryz.prog 64 #[.pointer (some ⟨kt,0,none⟩),.string (B a),.string (B b)] w fun e w'=>e=.returned (.string (B (subQS a b)))∧Below w.heap.size w w':=by
 have HQ:=Lib.hid (qsub_any a b w ha hb he)
 rw [h0] at HQ
 have HZ:=Lib.hid hz
 have HK:=Lib.hid hk
 clear h0 hz hk
 generalize subQS a b=v at *
 go_enter Tryz.func64,Tryz.ntmps64
 simp only [B_mk]
 by_cases h2:b=[48]
 ·have HV:=Lib.hid (HZ.out h2)
  subst h2
  go_wp2_with fail
  go_ret
  exact ⟨by rw [HV.out];rfl,Below.refl _ _⟩
 ·have h2':(b == [48])=false:=by simpa using h2
  clear h2
  go_wp2_with fail
  refine HQ.out.mono ?_
  rintro e w1 ⟨rfl,hb1⟩
  go_wp2_with fail
  refine (sxnote_any kt w1 (HK.out.below hb1)).mono ?_
  rintro e w2 ⟨rfl,rfl⟩
  go_wp2_with fail
  go_ret
  exact ⟨rfl,hb1⟩
theorem sxdiv_any (kt:Nat) (a b:Str) (w:World) (ha:a.length≤1000000) (hb:b.length≤1000000) (h0:quoQE a b=0) (hk:ErrAt w kt) (he:Env w) :
  Calls Tryz.prog 108 #[.pointer (some ⟨kt,0,none⟩),.string (B a),.string (B b)] w fun e w'=>e=.returned (.string (B (quoQS a b)))∧Below w.heap.size w w':=by
 have HQ:=Lib.hid (qdiv_any a b w ha hb he)
 rw [h0] at HQ
 have HK:=Lib.hid hk
 clear h0 hk
 generalize quoQS a b=v at *
 go_enter Tryz.func108,Tryz.ntmps108
 simp only [B_mk]
 go_wp2_with fail
 refine HQ.out.mono ?_
 rintro e w1 ⟨rfl,hb1⟩
 go_wp2_with fail
 refine (sxnote_any kt w1 (HK.out.below hb1)).mono ?_
 rintro e w2 ⟨rfl,rfl⟩
 go_wp2_with fail
 go_ret
 exact ⟨rfl,hb1⟩
theorem mul_zero_of {n d n' d':Nat} {a b:Str} (ha:FrD n d a) (hb:FrD n' d' b) (h1:n+n'≤4096) (h2:d+d'≤4096) (h:a=[48]∨b=[48]):mulQS a b=[48]:=by
 have hm:=ha.mul hb h1 h2
 refine (rq_zero_iff (hm.2.1.right (by omega) (by omega))).1 ?_
 rw [hm.2.2]
 rcases h with h | h <;> rw [h,rq_zero] <;> grind
theorem sub_zero_of {n d n' d':Nat} {a b:Str} (ha:FrD n d a) (hb:FrD n' d' b) (h1:max (n+d') (n' + d)+1≤4096) (h2:d+d'≤4096) (h:b=[48]):subQS a b=a:=by
 have hm:=ha.sub hb h1 h2
 refine rq_inj (hm.2.1.right (by omega) (by omega)) (ha.right (by omega) (by omega)) ?_
 rw [hm.2.2,h,rq_zero];grind
theorem below_lift3 {w0 w1 w2:World} (h1:Below w0.heap.size w0 w1) (h2:Below w1.heap.size w1 w2):Below w0.heap.size w0 w2:=h1.trans (h2.mono h1.size)
def KeptB (g:Nat) (w w':World):Prop:=w.heap.size≤w'.heap.size∧∀ b,b<w.heap.size→b≠g→w'.heap[b]? = w.heap[b]?
theorem KeptB.refl (g:Nat) (w:World):KeptB g w w:=⟨Nat.le_refl _,fun _ _ _=>rfl⟩
theorem KeptB.below {g:Nat} {w w1 w2:World} (k:KeptB g w w1) (hb:Below w1.heap.size w1 w2):KeptB g w w2 :=
 ⟨Nat.le_trans k.1 hb.size,fun b h1 h2=>(hb.block b (Nat.lt_of_lt_of_le h1 k.1)).trans (k.2 b h1 h2)⟩
theorem KeptB.store {g:Nat} {w w1:World} (k:KeptB g w w1) (j:Nat) (u:Value):KeptB g w (w1.setCell ⟨g,j,none⟩ u) :=
 ⟨by rw [World.size_setCell];exact k.1,fun b h1 h2=>by rw [Below.heap_setCell _ _ _ _ h2];exact k.2 b h1 h2⟩
theorem cell_at {w w':World} {b:Nat} (h:w'.heap[b]? = w.heap[b]?) (i:Nat):w'.cell? ⟨b,i,none⟩=w.cell? ⟨b,i,none⟩:=by unfold World.cell?;simp only [h]
theorem frozen_at {w w':World} {b:Nat} (h:w'.heap[b]? = w.heap[b]?) (i:Nat):w'.frozen? ⟨b,i,none⟩=w.frozen? ⟨b,i,none⟩:=by unfold World.frozen?;simp only [h]
theorem ErrAt.at {w w':World} {kt:Nat} (h:ErrAt w kt) (hs:w.heap.size≤w'.heap.size) (hk:w'.heap[kt]? = w.heap[kt]?):ErrAt w' kt :=
 ⟨(cell_at hk 7).trans h.cell,(frozen_at hk 7).trans h.free,Nat.lt_of_lt_of_le h.lt hs⟩
structure ClrOK (D k:Nat) (r f:List Str) (p:Str):Prop where
 rl:r.length=k
 fl:f.length=k
 rD:∀ j,j<k→FrD D D (r.getD j [])
 fD:∀ j,j<k→FrD D D (f.getD j [])
 pD:FrD D D p
 mul:∀ j,j<k→mulQE p (f.getD j [])=0
 prod:∀ j,j<k→FrD (2*D) (2*D) (mulQS p (f.getD j []))
 sub:∀ j,j<k→subQE (r.getD j []) (mulQS p (f.getD j []))=0
 skip:∀ j,j<k→p=[48]∨f.getD j []=[48]→subQS (r.getD j []) (mulQS p (f.getD j []))=r.getD j []
theorem ClrOK.len {D k:Nat} {r f:List Str} {p:Str} (h:ClrOK D k r f p):(lessR r f p).length=k:=by unfold lessR;rw [List.length_zipWith,h.rl,h.fl,Nat.min_self]
theorem ClrOK.same {D k:Nat} {r f:List Str} {p:Str} (h:ClrOK D k r f p) (hp:p=[48]):lessR r f p=r:=by
 apply List.ext_getElem?
 intro j
 by_cases hj:j<k
 ·have h1:=lessR_get (p:=p) (j:=j) (by rw [h.rl];exact hj:j<r.length) (by rw [h.fl];exact hj)
  rw [h.skip j hj (.inl hp)] at h1
  have hl:=h.len
  have hr:=h.rl
  rw [List.getElem?_eq_getElem (by omega),List.getElem?_eq_getElem (by omega)]
  rw [List.getD_eq_getElem?_getD,List.getElem?_eq_getElem (by omega),List.getD_eq_getElem?_getD,List.getElem?_eq_getElem (by omega)] at h1
  exact congrArg some h1
 ·rw [List.getElem?_eq_none (by rw [h.len];omega),List.getElem?_eq_none (by rw [h.rl];omega)]
set_option maxHeartbeats 4000000 in
set_option maxRecDepth 100000 in
theorem sxclear_any {D k:Nat} {r f:List Str} {p:Str} (hO:ClrOK D k r f p) (hD:3*D+1≤4096) (Bs kt gA gr gl m c cr cl cr' cl' row col:Nat) (w0 w:World) (h0:Below w0.heap.size w0 w) (hB:w0.heap.size≤Bs) (hE:ErrAt w kt)
  (hA0:w.cell? ⟨kt,0,none⟩=some (.slice (some ⟨gA,0,none⟩) m c)) (hA1:gA<w.heap.size) (hA2:w.cell? ⟨gA,row,none⟩=some (.slice (some ⟨gr,0,none⟩) k cr))
  (hf:OwnS w Bs 29 (some ⟨gr,0,none⟩) k cr' (strs f)) (hr:OwnS w Bs 29 (some ⟨gl,0,none⟩) k cl' (strs r)) (hcr:k≤cr∧cr≤maxLen) (hcl:k≤cl∧cl≤maxLen) (hrow:row<m) (hcol:col<k) (hp:r.getD col []=p) (hk:k≤1000) (hm:m≤1000) (hc:m≤c)
  (n1:gl≠gr) (n2:gl≠kt) (n3:gl≠gA) (he:Env w0) :
  Calls Tryz.prog 110 #[.pointer (some ⟨kt,0,none⟩),.slice (some ⟨gl,0,none⟩) k cl,.int .i64 row,.int .i64 col] w fun e w'=>e=.returned (.tuple #[])∧OwnS w' Bs 29 (some ⟨gl,0,none⟩) k cl' (strs (lessR r f p))∧Below w0.heap.size w0 w'∧KeptB gl w w':=by
 unfold maxLen at hcr hcl
 obtain ⟨g1,e1,hgr0,hgr1,hfc,hff⟩:=hf.at_ (by omega)
 obtain rfl:gr=g1:=by injection e1 with e1;injection e1
 obtain ⟨g1,e2,hgl0,hgl1,hrc,hrf⟩:=hr.at_ (by omega)
 obtain rfl:gl=g1:=by injection e2 with e2;injection e2
 have d1:=hrc col hcol
 rw [strs_get _ _ (by rw [hO.rl];exact hcol),hp] at d1
 have hlt:=hE.lt
 have HFC:=Lib.hid (show ∀ j,j<k→w.cell? ⟨gr,j,none⟩=some (.string (B (f.getD j []))) from fun j hj=>by rw [hfc j hj,strs_get _ _ (by rw [hO.fl];exact hj)])
 have HE:=Lib.hid hE
 have HR:=Lib.hid hr
 clear hfc hrc hr hf hff hrf
 go_enter Tryz.func110,Tryz.ntmps110
 simp only [B_mk]
 by_cases hz:p=[48]
 ·have HS:=Lib.hid (hO.same hz)
  rw [hz] at d1
  clear hz
  go_wp2_with fail
  (try simp only [Exit.inBlock,Exit.then]);refine bodyPost_ret (results_none rfl _ _ _) rfl ?_
  exact ⟨rfl,by rw [HS.out];exact HR.out,h0,KeptB.refl _ _⟩
 ·have hz':(p == [48])=false:=by simpa using hz
  clear hz
  have HP:=Lib.hid hp
  clear hp
  go_wp2_with fail
  clear d1
  go_loopw [9,10,25] (fun _ _ i wr=>∃ j:Nat,j≤k∧i=.int .i64 j∧OwnS wr Bs 29 (some ⟨gl,0,none⟩) k cl' (strs (mixR (lessR r f p) r j))∧Below w0.heap.size w0 wr∧KeptB gl w wr) (fun _ _ i _=>k - (intOf i).toNat)
  case atStart=>exact ⟨0,Nat.zero_le _,rfl,by rw [mixR_zero];exact HR.out,h0,KeptB.refl _ _⟩
  case round =>
   obtain ⟨j,hj,rfl,hown,hb0,hkk⟩:=hrel
   have hl:=hO.len
   have hrl:=hO.rl
   have hfl:=hO.fl
   by_cases hlt2:j<k
   ·obtain ⟨g1,e3,_,hglw,hrc,hrf⟩:=hown.at_ (by omega)
    obtain rfl:gl=g1:=by injection e3 with e3;injection e3
    have d1:=hrc j hlt2
    rw [strs_get _ _ (by rw [mixR_len (by omega),hrl];exact hlt2),mixR_getD (by omega),if_neg (by omega)] at d1
    have d3:=(cell_at (hkk.2 gr hgr1 (fun e=>n1 e.symm)) j).trans (HFC.out j hlt2)
    have hEr:=HE.out.at hkk.1 (hkk.2 kt hlt (fun e=>n2 e.symm))
    have hset:=mixR_succ (n:=lessR r f p) (r:=r) (by omega) (j:=j) (by omega) []
    have hng:=lessR_get (p:=p) (j:=j) (by omega:j<r.length) (by omega:j<f.length)
    rw [hng] at hset
    have q1:=hO.mul j hlt2
    have q2:=hO.prod j hlt2
    have q3:=hO.sub j hlt2
    have q5:=hO.skip j hlt2
    have qr:=hO.rD j hlt2
    have qf:=hO.fD j hlt2
    have z1:=mul_zero_of hO.pD qf (by omega) (by omega)
    have z2:=sub_zero_of qr q2 (by omega) (by omega)
    have l1:=frx_len hO.pD
    have l2:=frx_len qf
    have l3:=frx_len q2
    have l4:=frx_len qr
    have HSKIP:=Lib.hid (show f.getD j []=[48]→mixR (lessR r f p) r (j+1)=mixR (lessR r f p) r j from fun h=>mixR_skip (by omega) (by omega) [] (by rw [hng,q5 (.inr h)]))
    have HST:=Lib.hid (show ∀ (w2:World),OwnS w2 Bs 29 (some ⟨gl,0,none⟩) k cl' (strs (mixR (lessR r f p) r j))→OwnS (w2.setCell ⟨gl,j,none⟩ (.string (B (subQS (r.getD j []) (mulQS p (f.getD j [])))))) Bs 29 (some ⟨gl,0,none⟩) k cl' (strs (mixR (lessR r f p) r (j+1))) by
     intro w2 h
     have:=h.stored j (.string (B (subQS (r.getD j []) (mulQS p (f.getD j [])))))
     rw [strs_set,hset] at this
     exact this)
    have HM1:=Lib.hid (fun (w:World) (hk:ErrAt w kt) (he:Env w)=>sxmul_any kt p (f.getD j []) w (by omega) (by omega) q1 z1 hk he)
    have HM2:=Lib.hid (fun (w:World) (hk:ErrAt w kt) (he:Env w)=>sxsub_any kt (r.getD j []) (mulQS p (f.getD j [])) w (by omega) (by omega) q3 z2 hk he)
    clear q1 q2 q3 q5 qr qf z1 z2 l1 l2 l3 l4 hng hset hrc
    generalize subQS (r.getD j []) (mulQS p (f.getD j []))=y at *
    generalize mulQS p (f.getD j [])=z at *
    generalize f.getD j []=a at *
    generalize r.getD j []=x at *
    clear HFC
    by_cases haz:a=[48]
    ·have HSK:=Lib.hid (HSKIP.out haz)
     rw [haz] at d3
     clear haz HST HM1 HM2 HSKIP
     go_wp2_with fail
     go_roundw
     case rel=>exact ⟨j+1,by omega,by go_num,by rw [HSK.out];exact hown,hb0,hkk⟩
     case measure=>simp [intOf];omega
    ·have haz':(a == [48])=false:=by simpa using haz
     clear haz HSKIP
     have hbd:=below_drew hb0
     have hed:=he.below hbd
     have hEd:ErrAt wr.drew kt:=hEr.below (below_drew (Below.refl _ _))
     have HED:=Lib.hid (fun (w2:World) (hb2:Below wr.drew.heap.size wr.drew w2)=>(⟨hEd.below hb2,hed.below hb2⟩:ErrAt w2 kt∧Env w2))
     have hglw':gl<wr.drew.heap.size:=hglw
     have HL:=Lib.hid (fun (w2:World) (hb2:Below wr.drew.heap.size wr.drew w2)=>show w2.cell? ⟨gl,j,none⟩=some (.string (B x))∧w2.frozen? ⟨gl,j,none⟩=false from
      ⟨(hb2.cell (p:=⟨gl,j,none⟩) hglw').trans d1,(hb2.frozen (p:=⟨gl,j,none⟩) hglw').trans (hrf j)⟩)
     go_wp2_with fail
     go_region_with (first
      | (go_at_call 65;refine (HM1.out _ hEd hed).mono ?_;rintro e w2 ⟨rfl,hb2⟩;obtain ⟨l1,l2⟩:=HL.out w2 hb2)
      | (go_at_call 64;refine (HM2.out _ (HED.out _ hb2).1 (HED.out _ hb2).2).mono ?_;rintro e w3 ⟨rfl,hb3⟩;have hb4:=below_lift3 hb2 hb3;obtain ⟨m1,m2⟩:=HL.out w3 hb4))
     all_goals
      have b2:=below_lift3 hbd hb4
      have hM2:=HST.out w3 ((hown.below (below_drew (Below.refl _ _))).below hb4)
      go_wp2_with fail
      go_roundw
      case rel=>exact ⟨j+1,by omega,by go_num,hM2,b2.setCell (Nat.le_trans hB hgl0) _,(hkk.below ((Below.refl _ wr).drew.trans hb4)).store _ _⟩
      case measure=>simp [intOf];omega
   ·have hjk:j=k:=by omega
    have HX:=Lib.hid (show OwnS wr Bs 29 (some ⟨gl,0,none⟩) k cl' (strs (lessR r f p)) by rw [mixR_full (by omega) (by omega)] at hown;exact hown)
    have hkx:¬ (j:Int)<(k:Int):=by omega
    clear hjk hown
    go_wp2_with fail
    go_end0
    exact ⟨rfl,HX.out,hb0,hkk⟩
structure SxH where
 kt:Nat
 A:Option Addr
 c:Nat
 hA:Nat→Option Addr
 hC:Nat→Nat
 hR:Nat→Nat
 Bb:Option Addr
 cb:Nat
 U:Option Addr
 cu:Nat
 V:Option Addr
 cv:Nat
 P:Option Addr
 cp:Nat
structure MatX (w:World) (Bs:Nat) (A:Option Addr) (c:Nat) (hA:Nat→Option Addr) (hC hR:Nat→Nat) (M:List (List Str)):Prop where
 outer:OwnS w Bs 28 A M.length c (hdrs hA hC M)
 rows:∀ i,i<M.length→OwnS w Bs 29 (hA i) (M.getD i []).length (hR i) (strs (M.getD i []))
 caps:∀ i,i<M.length→(M.getD i []).length≤hC i∧hC i≤maxLen
 apart:∀ i j,i<M.length→j<M.length→i≠j→∀ g,hA i=some g→hA j≠some g
 apart0:∀ i,i<M.length→∀ g,hA i=some g→A≠some g
section
variable {w w':World} {Bs:Nat} {A:Option Addr} {c:Nat} {hA:Nat→Option Addr} {hC hR:Nat→Nat} {M:List (List Str)}
theorem MatX.below (h:MatX w Bs A c hA hC hR M) (hb:Below w.heap.size w w'):MatX w' Bs A c hA hC hR M :=
 ⟨h.outer.below hb,fun i hi=>(h.rows i hi).below hb,h.caps,h.apart,h.apart0⟩
theorem MatX.hdr (h:MatX w Bs A c hA hC hR M) (h0:0<M.length):∃ g,A=some ⟨g,0,none⟩∧Bs≤g∧g<w.heap.size∧(∀ i,i<M.length→w.cell? ⟨g,i,none⟩=some (.slice (hA i) (M.getD i []).length (hC i)))∧∀ j,w.frozen? ⟨g,j,none⟩=false:=by
 obtain ⟨g,e,h1,h2,h3,h4⟩:=h.outer.at_ h0
 exact ⟨g,e,h1,h2,fun i hi=>by rw [h3 i hi,hdrs_get _ _ _ hi],h4⟩
theorem MatX.row (h:MatX w Bs A c hA hC hR M) {i:Nat} (hi:i<M.length) (h0:0<(M.getD i []).length):∃ g,hA i=some ⟨g,0,none⟩∧Bs≤g∧g<w.heap.size∧(∀ j,j<(M.getD i []).length→w.cell? ⟨g,j,none⟩=some (.string (B (cellM M i j))))∧∀ j,w.frozen? ⟨g,j,none⟩=false:=by
 obtain ⟨g,e,h1,h2,h3,h4⟩:=(h.rows i hi).at_ h0
 exact ⟨g,e,h1,h2,fun j hj=>by rw [h3 j hj,strs_get _ _ hj];rfl,h4⟩
end
def boolsV (tv:List Bool):List Value:=tv.map Value.bool
structure SxM (w:World) (Bs:Nat) (H:SxH) (m k vars cols:Nat) (E:List (List Str)) (bs us:List Nat) (tv:List Bool):Prop where
 base:Bs≤H.kt
 obj:w.heap[H.kt]? = some (.cells #[.slice H.A m H.c,.slice H.P k H.cp,.slice H.Bb m H.cb,.slice H.U m H.cu,.slice H.V m H.cv,.int .i64 cols,.int .i64 vars,.int .i64 0] 61)
 elen:E.length=m+1
 mat:MatX w Bs H.A H.c H.hA H.hC H.hR (E.take m)
 pri:OwnS w Bs 29 H.P k H.cp (strs (E.getD m []))
 prn:∀ i,i<m→∀ g,H.hA i=some g→H.P≠some g
 bas:OwnS w Bs 3 H.Bb m H.cb (nums bs)
 uni:OwnS w Bs 3 H.U m H.cu (nums us)
 tur:OwnS w Bs 4 H.V m H.cv (boolsV tv)
 bu:∀ g,H.Bb=some g→H.U≠some g
section
variable {w w':World} {Bs:Nat} {H:SxH} {m k vars cols:Nat} {E:List (List Str)} {bs us:List Nat} {tv:List Bool}
theorem lt_of_heap {w:World} {b:Nat} {o:Obj} (h:w.heap[b]? = some o):b<w.heap.size:=by
 rcases Nat.lt_or_ge b w.heap.size with h' | h'
 ·exact h'
 ·rw [Array.getElem?_eq_none h'] at h;cases h
theorem free_of_heap {w:World} {b:Nat} {l:Array Value} {e:TypeId} (h:w.heap[b]? = some (.cells l e (0,0))) (i:Nat):w.frozen? ⟨b,i,none⟩=false:=by
 unfold World.frozen?;simp only [h];simp
theorem SxM.lt (h:SxM w Bs H m k vars cols E bs us tv):H.kt<w.heap.size:=lt_of_heap h.obj
theorem SxM.cell (h:SxM w Bs H m k vars cols E bs us tv) (i:Nat):w.cell? ⟨H.kt,i,none⟩=#[Value.slice H.A m H.c,.slice H.P k H.cp,.slice H.Bb m H.cb,.slice H.U m H.cu,.slice H.V m H.cv,.int .i64 cols,.int .i64 vars,.int .i64 0][i]? := by
 unfold World.cell?;simp only [h.obj];rfl
theorem SxM.err (h:SxM w Bs H m k vars cols E bs us tv):ErrAt w H.kt:=⟨h.cell 7,free_of_heap h.obj 7,h.lt⟩
theorem SxM.below (h:SxM w Bs H m k vars cols E bs us tv) (hb:Below w.heap.size w w'):SxM w' Bs H m k vars cols E bs us tv :=
 ⟨h.base,(hb.block _ h.lt).trans h.obj,h.elen,h.mat.below hb,h.pri.below hb,h.prn,h.bas.below hb,h.uni.below hb,h.tur.below hb,h.bu⟩
theorem OwnS.not {w:World} {Bs:Nat} {e e':TypeId} {A:Option Addr} {n c g:Nat} {xs:List Value} {l:Array Value} {z:Nat × Nat} (h:OwnS w Bs e A n c xs) (hg:w.heap[g]? = some (.cells l e' z)) (he:e≠e'):A≠some ⟨g,0,none⟩:=by
 intro hA
 subst hA
 obtain ⟨_,_,cur,h3⟩:=h.typ
 rw [hg] at h3
 injection h3 with h3
 injection h3 with _ h3 _
 exact he h3.symm
theorem OwnS.kept {w w':World} {Bs:Nat} {e:TypeId} {A:Option Addr} {n c g:Nat} {xs:List Value} (h:OwnS w Bs e A n c xs) (hk:KeptB g w w') (hn:A≠some ⟨g,0,none⟩):OwnS w' Bs e A n c xs :=
 h.keep fun b hb=>hk.2 b (by subst hb;exact h.typ.2.1) (fun e=>hn (by rw [hb,e]))
theorem take_getD {E:List (List Str)} {m i:Nat} (hi:i<m):(E.take m).getD i []=E.getD i []:=by
 rw [List.getD_eq_getElem?_getD,List.getElem?_take,if_pos hi,← List.getD_eq_getElem?_getD]
theorem take_set {E:List (List Str)} {m i:Nat} {r:List Str}:(E.set i r).take m=(E.take m).set i r:=by
 apply List.ext_getElem?
 intro j
 rw [List.getElem?_take,List.getElem?_set,List.getElem?_set,List.getElem?_take]
 by_cases h1:j<m
 ·rw [if_pos h1]
  by_cases h2:i=j
  ·subst h2
   rw [if_pos rfl,if_pos rfl,List.length_take]
   by_cases h3:i<E.length
   ·rw [if_pos h3,if_pos (by omega)]
   ·rw [if_neg h3,if_neg (by omega)]
  ·rw [if_neg h2,if_neg h2,if_pos h1]
 ·rw [if_neg h1,List.length_take]
  by_cases h2:i=j
  ·rw [if_pos h2,if_neg (by omega)]
  ·rw [if_neg h2,if_neg h1]
theorem take_set_m {E:List (List Str)} {m:Nat} {r:List Str}:(E.set m r).take m=E.take m:=by
 rw [take_set]
 exact List.set_eq_of_length_le (by rw [List.length_take];omega)
theorem getD_set2 {E:List (List Str)} {i l:Nat} {r:List Str} (hi:i<E.length):(E.set i r).getD l []=if l=i then r else E.getD l []:=by
 rw [List.getD_eq_getElem?_getD,List.getD_eq_getElem?_getD,List.getElem?_set]
 by_cases e:i=l
 ·subst e;simp [hi]
 ·rw [if_neg e,if_neg (fun h=>e h.symm)]
theorem MatX.upd {A:Option Addr} {c:Nat} {hA:Nat→Option Addr} {hC hR:Nat→Nat} {M:List (List Str)} (h:MatX w Bs A c hA hC hR M) {i g:Nat} {r:List Str} (hi:i<M.length) (hg:hA i=some ⟨g,0,none⟩) (hr:OwnS w' Bs 29 (hA i) r.length (hR i) (strs r)) (hl:r.length=(M.getD i []).length) (hk:KeptB g w w') :
  MatX w' Bs A c hA hC hR (M.set i r):=by
 have hlen:∀ k,((M.set i r).getD k []).length=(M.getD k []).length:=by
  intro k
  rw [getD_set hi]
  split
  ·rename_i e;rw [e,hl]
  ·rfl
 have hh:hdrs hA hC (M.set i r)=hdrs hA hC M:=by
  unfold hdrs
  rw [List.length_set]
  exact List.map_congr_left fun k _=>by rw [hlen]
 refine ⟨?_,fun k hk2=>?_,fun k hk2=>by rw [List.length_set] at hk2;rw [hlen];exact h.caps k hk2,?_,?_⟩
 ·rw [hh,List.length_set]
  exact h.outer.kept hk (h.apart0 i hi _ hg)
 ·rw [List.length_set] at hk2
  rw [hlen,getD_set hi]
  by_cases e:k=i
  ·subst e
   rw [if_pos rfl,← hl]
   exact hr
  ·rw [if_neg e]
   exact (h.rows k hk2).kept hk (h.apart i k hi hk2 (fun e2=>e e2.symm) _ hg)
 ·rw [List.length_set];exact h.apart
 ·rw [List.length_set];exact h.apart0
theorem MatX.kept {A:Option Addr} {c:Nat} {hA:Nat→Option Addr} {hC hR:Nat→Nat} {M:List (List Str)} {g:Nat} (h:MatX w Bs A c hA hC hR M) (hk:KeptB g w w') (h1:A≠some ⟨g,0,none⟩) (h2:∀ i,i<M.length→hA i≠some ⟨g,0,none⟩):MatX w' Bs A c hA hC hR M :=
 ⟨h.outer.kept hk h1,fun i hi=>(h.rows i hi).kept hk (h2 i hi),h.caps,h.apart,h.apart0⟩
theorem SxM.row (h:SxM w Bs H m k vars cols E bs us tv) {i g:Nat} {r:List Str} (hi:i<m) (hg:H.hA i=some ⟨g,0,none⟩) (hr:OwnS w' Bs 29 (some ⟨g,0,none⟩) r.length (H.hR i) (strs r)) (hl:r.length=(E.getD i []).length) (hk:KeptB g w w') :
  SxM w' Bs H m k vars cols (E.set i r) bs us tv:=by
 have hml:(E.take m).length=m:=by rw [List.length_take,h.elen];omega
 have hro:=h.mat.rows i (by omega)
 rw [take_getD hi,hg] at hro
 obtain ⟨_,_,cur,htg⟩:=hro.typ
 have hkt:H.kt≠g:=fun e=>by
  have:=h.obj
  rw [e,htg] at this
  injection this with this
  injection this with _ this _
  exact absurd this (by decide)
 refine ⟨h.base,(hk.2 _ h.lt hkt).trans h.obj,by rw [List.length_set];exact h.elen,?_,?_,h.prn,h.bas.kept hk (h.bas.not htg (by decide)),h.uni.kept hk (h.uni.not htg (by decide)),h.tur.kept hk (h.tur.not htg (by decide)),h.bu⟩
 ·rw [take_set]
  exact h.mat.upd (by omega) hg (by rw [hg];exact hr) (by rw [take_getD hi];exact hl) hk
 ·rw [getD_set2 (by rw [h.elen];omega),if_neg (by omega)]
  exact h.pri.kept hk (h.prn i hi _ hg)
theorem SxM.price (h:SxM w Bs H m k vars cols E bs us tv) {g:Nat} {r:List Str} (hg:H.P=some ⟨g,0,none⟩) (hr:OwnS w' Bs 29 (some ⟨g,0,none⟩) k H.cp (strs r)) (hk:KeptB g w w') :
  SxM w' Bs H m k vars cols (E.set m r) bs us tv:=by
 have hml:(E.take m).length=m:=by rw [List.length_take,h.elen];omega
 have hro:=h.pri
 rw [hg] at hro
 obtain ⟨_,_,cur,htg⟩:=hro.typ
 have hkt:H.kt≠g:=fun e=>by
  have:=h.obj
  rw [e,htg] at this
  injection this with this
  injection this with _ this _
  exact absurd this (by decide)
 refine ⟨h.base,(hk.2 _ h.lt hkt).trans h.obj,by rw [List.length_set];exact h.elen,?_,?_,h.prn,h.bas.kept hk (h.bas.not htg (by decide)),h.uni.kept hk (h.uni.not htg (by decide)),h.tur.kept hk (h.tur.not htg (by decide)),h.bu⟩
 ·rw [take_set_m]
  exact h.mat.kept hk (h.mat.outer.not htg (by decide)) (fun i hi e=>h.prn i (by omega) _ e hg)
 ·rw [getD_set2 (by rw [h.elen];omega),if_pos rfl,hg]
  exact hr
theorem sxnums_set (bs:List Nat) (i x:Nat):(nums bs).set i (.int .i64 (x:Int))=nums (bs.set i x):=by unfold nums;rw [List.map_set]
theorem SxM.basis (h:SxM w Bs H m k vars cols E bs us tv) {g r x:Nat} (hg:H.Bb=some ⟨g,0,none⟩):SxM (w.setCell ⟨g,r,none⟩ (.int .i64 (x:Int))) Bs H m k vars cols E (bs.set r x) us tv:=by
 have hro:=h.bas
 rw [hg] at hro
 obtain ⟨_,_,cur,htg⟩:=hro.typ
 have hkt:H.kt≠g:=fun e=>by
  have:=h.obj
  rw [e,htg] at this
  injection this with this
  injection this with _ this _
  exact absurd this (by decide)
 have hk:KeptB g w (w.setCell ⟨g,r,none⟩ (.int .i64 (x:Int))):=(KeptB.refl g w).store _ _
 refine ⟨h.base,(hk.2 _ h.lt hkt).trans h.obj,h.elen,h.mat.kept hk (h.mat.outer.not htg (by decide)) (fun i hi=>(h.mat.rows i hi).not htg (by decide)),h.pri.kept hk (h.pri.not htg (by decide)),h.prn,?_,h.uni.kept hk (fun e=>h.bu _ hg e),h.tur.kept hk (h.tur.not htg (by decide)),h.bu⟩
 rw [hg]
 have:=hro.stored r (.int .i64 (x:Int))
 rw [sxnums_set] at this
 exact this
end
theorem clrOK_of {D k:Nat} {E:List (List Str)} {row col i:Nat} (hO:ClearOps D k E row col) (hi:i<E.length) (hne:i≠row):ClrOK D k (E.getD i []) (scaleR (E.getD row []) (cellM E row col)) (cellM E i col):=by
 refine ⟨hO.rowlen hi,hO.firstlen,fun j hj=>hO.mat.cell hi hj,fun j hj=>?_,hO.mat.cell hi hO.col_lt,fun j hj=>?_,fun j hj=>?_,fun j hj=>?_,fun j hj h=>?_⟩
 ·rw [hO.first_get hj];exact (hO.quo j hj).2
 ·rw [hO.first_get hj];exact (hO.less i hi hne j hj).1
 ·rw [hO.first_get hj];exact (hO.less i hi hne j hj).2.1
 ·rw [hO.first_get hj];exact (hO.less i hi hne j hj).2.2.1
 ·rw [hO.first_get hj] at h ⊢;exact hO.skip i hi hne j hj h
theorem clr_new {D k:Nat} {E:List (List Str)} {row col i:Nat} (hO:ClearOps D k E row col) (hi:i<E.length) (hne:i≠row):(clearM E row col).getD i []=lessR (E.getD i []) (scaleR (E.getD row []) (cellM E row col)) (cellM E i col):=by
 rw [clearM_row hi,if_neg hne]
theorem sxset_self (M:List (List Str)) (i:Nat):M.set i (M.getD i [])=M:=by
 apply List.ext_getElem?
 intro j
 rw [List.getElem?_set]
 by_cases e:i=j
 ·subst e
  rw [if_pos rfl]
  split
  ·rename_i h;rw [List.getD_eq_getElem?_getD,List.getElem?_eq_getElem h];rfl
  ·rename_i h;rw [List.getElem?_eq_none (by omega)]
 ·rw [if_neg e]
set_option maxHeartbeats 4000000 in
set_option maxRecDepth 100000 in
theorem sxpivot_any {D k m vars cols row col:Nat} {E:List (List Str)} {bs us:List Nat} {tv:List Bool} {H:SxH} (hO:ClearOps D k E row col) (hD:3*D+1≤4096) (Bs:Nat) (w0 w:World) (h0:Below w0.heap.size w0 w) (hB:w0.heap.size≤Bs)
  (hM:SxM w Bs H m k vars cols E bs us tv) (hrow:row<m) (hk:k≤1000) (hm:m≤500) (hbl:bs.length=m) (he:Env w0) :
  Calls Tryz.prog 68 #[.pointer (some ⟨H.kt,0,none⟩),.int .i64 row,.int .i64 col] w fun e w'=>e=.returned (.tuple #[])∧SxM w' Bs H m k vars cols (clearM E row col) (bs.set row col) us tv∧Below w0.heap.size w0 w'∧w.heap.size≤w'.heap.size:=by
 have hr:=hO.row_lt
 have hc:=hO.col_lt
 have helen:=hM.elen
 have hrl:=hO.rowlen hr
 have hfl:=hO.firstlen
 have htl:(E.take m).length=m:=by rw [List.length_take,helen];omega
 have hcap:=hM.mat.outer.cap
 rw [htl] at hcap
 unfold maxLen at hcap
 have hapart:=hM.mat.apart
 obtain ⟨gA,hgA,hgA1,_,_,_⟩:=hM.mat.hdr (by omega)
 obtain ⟨gr,hgr,hgr1,_,_,_⟩:=hM.mat.row (i:=row) (by omega) (by rw [take_getD hrow];omega)
 obtain ⟨gp,hgp,hgp1,_,_,_⟩:=hM.pri.at_ (by omega)
 obtain ⟨gb,hgb,hgb1,_,_,_⟩:=hM.bas.at_ (by omega)
 have hcb:=hM.bas.cap
 have hcp:=hM.pri.cap
 unfold maxLen at hcb hcp
 have hcr:=hM.mat.caps row (by omega)
 rw [take_getD hrow,hrl] at hcr
 unfold maxLen at hcr
 have key:∀ (w:World) (F:List (List Str)) (bs:List Nat),SxM w Bs H m k vars cols F bs us tv→(∀ i,i<m→(F.getD i []).length=k) →
   H.kt<w.heap.size∧gA<w.heap.size∧gr<w.heap.size∧w.cell? ⟨H.kt,0,none⟩=some (.slice (some ⟨gA,0,none⟩) m H.c)∧w.cell? ⟨H.kt,1,none⟩=some (.slice (some ⟨gp,0,none⟩) k H.cp)∧w.cell? ⟨H.kt,2,none⟩=some (.slice (some ⟨gb,0,none⟩) m H.cb) ∧
   (∀ i,i<m→w.cell? ⟨gA,i,none⟩=some (.slice (H.hA i) k (H.hC i)))∧(∀ j,j<k→w.cell? ⟨gr,j,none⟩=some (.string (B (cellM F row j))))∧(∀ j,w.frozen? ⟨gr,j,none⟩=false)∧(∀ j,w.frozen? ⟨gb,j,none⟩=false)∧∀ i,i<m→∃ v,w.cell? ⟨gb,i,none⟩=some v:=by
  intro w F bs h hl
  have h1:=h.cell 0
  have h2:=h.cell 1
  have h3:=h.cell 2
  have hfl:(F.take m).length=m:=by rw [List.length_take,h.elen];omega
  obtain ⟨g1,e1,_,k1,k2,_⟩:=h.mat.hdr (by omega)
  obtain rfl:gA=g1:=by rw [hgA] at e1;injection e1 with e1;injection e1
  obtain ⟨g1,e2,_,k3,k4,k5⟩:=h.mat.row (i:=row) (by omega) (by rw [take_getD hrow,hl row hrow];omega)
  obtain rfl:gr=g1:=by rw [hgr] at e2;injection e2 with e2;injection e2
  have hbn:=h.bas.len
  obtain ⟨g1,e3,_,_,k7,k6⟩:=h.bas.at_ (by omega)
  obtain rfl:gb=g1:=by rw [hgb] at e3;injection e3 with e3;injection e3
  rw [hgA] at h1
  rw [hgp] at h2
  rw [hgb] at h3
  refine ⟨h.lt,k1,k3,h1,h2,h3,fun i hi=>?_,fun j hj=>?_,k5,k6,fun i hi=>⟨_,(k7 i hi).trans (List.getElem?_eq_getElem (by omega))⟩⟩
  ·rw [k2 i (by omega),take_getD hi,hl i hi]
  ·have:=k4 j (by rw [take_getD hrow,hl row hrow];exact hj)
   unfold cellM at this ⊢
   rw [take_getD hrow] at this
   exact this
 have KEY:=Lib.hid key
 obtain ⟨x0,x1,x2,c0,_,_,c3,c4,_,_,_⟩:=key w E bs hM (fun i hi=>hO.rowlen (by omega))
 have c3r:=c3 row hrow
 rw [hgr] at c3r
 have c4r:=c4 col hc
 have HM:=Lib.hid hM
 have HRL:=Lib.hid hrl
 have HFL:=Lib.hid hfl
 have HEL:=Lib.hid helen
 have HGA:=Lib.hid hgA
 have HGR:=Lib.hid hgr
 have HGP:=Lib.hid hgp
 have HGB:=Lib.hid hgb
 have HKC:=Lib.hid hcap
 clear key c3 c4 hM x0 x1 x2 htl hrl hfl helen hgA hgr hgp hgb hbl
 go_enter Tryz.func68,Tryz.ntmps68
 simp only [B_mk]
 go_wp2_with fail
 clear c0 c3r c4r
 go_loopw [7,8,28] (fun _ _ i wr=>∃ j:Nat,j≤k∧i=.int .i64 j∧SxM wr Bs H m k vars cols (E.set row (mixR (scaleR (E.getD row []) (cellM E row col)) (E.getD row []) j)) bs us tv∧Below w0.heap.size w0 wr∧w.heap.size≤wr.heap.size) (fun _ _ i _=>k - (intOf i).toNat)
 case atStart=>exact ⟨0,Nat.zero_le _,rfl,by rw [mixR_zero,sxset_self];exact HM.out,h0,Nat.le_refl _⟩
 case round =>
  obtain ⟨j,hj,rfl,hMj,hb0,hsz⟩:=hrel
  have hrl:=HRL.out
  have hfl:=HFL.out
  have helen:=HEL.out
  have hgr:=HGR.out
  have hml:(mixR (scaleR (E.getD row []) (cellM E row col)) (E.getD row []) j).length=k:=by rw [mixR_len (by omega),hrl]
  by_cases hlt:j<k
  ·have hrowE:(E.set row (mixR (scaleR (E.getD row []) (cellM E row col)) (E.getD row []) j)).getD row []=mixR (scaleR (E.getD row []) (cellM E row col)) (E.getD row []) j:=by rw [getD_set2 hr,if_pos rfl]
   obtain ⟨x0,x1,x2,d0,_,_,d3,d4,d5,_,_⟩:=KEY.out wr _ _ hMj (fun i hi=>by
    rw [getD_set2 hr]
    split
    ·exact hml
    ·exact hO.rowlen (by omega))
   have d3r:=d3 row hrow
   rw [hgr] at d3r
   have d4j:=d4 j hlt
   have hcell:cellM (E.set row (mixR (scaleR (E.getD row []) (cellM E row col)) (E.getD row []) j)) row j=cellM E row j:=by
    show (List.getD (E.set row _) row []).getD j []=_
    rw [hrowE,mixR_getD (by omega),if_neg (by omega)];rfl
   rw [hcell] at d4j
   have HS:=Lib.hid (fun (w2:World) (h:SxM w2 Bs H m k vars cols (E.set row (mixR (scaleR (E.getD row []) (cellM E row col)) (E.getD row []) j)) bs us tv)=>show SxM (w2.setCell ⟨gr,j,none⟩ (.string (B (quoQS (cellM E row j) (cellM E row col))))) Bs H m k vars cols (E.set row (mixR (scaleR (E.getD row []) (cellM E row col)) (E.getD row []) (j+1))) bs us tv by
    have hro:=h.mat.rows row (by rw [List.length_take,List.length_set,helen];omega)
    rw [take_getD hrow,hrowE,hgr] at hro
    have hst:=hro.stored j (.string (B (quoQS (cellM E row j) (cellM E row col))))
    rw [strs_set] at hst
    have:=h.row (i:=row) (g:=gr) (r:=(mixR (scaleR (E.getD row []) (cellM E row col)) (E.getD row []) j).set j (quoQS (cellM E row j) (cellM E row col))) hrow hgr (by rw [List.length_set];exact hst) (by rw [List.length_set,hrowE]) ((KeptB.refl gr w2).store _ _)
    rw [List.set_set] at this
    rw [← mixR_succ (by omega) (by omega) [],hO.first_get hlt]
    exact this)
   have HSK:=Lib.hid (show cellM E row j=[48]→mixR (scaleR (E.getD row []) (cellM E row col)) (E.getD row []) (j+1)=mixR (scaleR (E.getD row []) (cellM E row col)) (E.getD row []) j from fun h=>mixR_skip (by omega) (by omega) [] (by
    rw [hO.first_get hlt]
    show _=cellM E row j
    rw [h]
    have hq:=hO.quo j hlt
    have hz:=(hO.mat.cell hr hlt).div (hO.mat.cell hr hc) (fun e=>hO.ne ((rq_zero_iff ((hO.mat.cell hr hc).right (by omega) (by omega))).1 e)) (by omega) (by omega) (by omega) (by omega) (by omega) (by omega)
    rw [h] at hz hq
    refine (rq_zero_iff (hq.2.right (by omega) (by omega))).1 ?_
    rw [hz.2.2,rq_zero,Rat.div_def,Rat.zero_mul]))
   obtain ⟨q1,q2⟩:=hO.quo j hlt
   have HQ:=Lib.hid (fun (w:World) (hk:ErrAt w H.kt) (he:Env w)=>sxdiv_any H.kt (cellM E row j) (cellM E row col) w (by have:=frx_len (hO.mat.cell hr hlt);omega) (by have:=frx_len (hO.mat.cell hr hc);omega) q1 hk he)
   generalize quoQS (cellM E row j) (cellM E row col)=q at *
   generalize cellM E row j=a at *
   generalize hMn:E.set row (mixR (scaleR (E.getD row []) (cellM E row col)) (E.getD row []) (j+1))=Mn at *
   generalize hMo:E.set row (mixR (scaleR (E.getD row []) (cellM E row col)) (E.getD row []) j)=Mo at *
   generalize cellM E row col=p at *
   have HMN:=Lib.hid hMn
   have HMO:=Lib.hid hMo
   clear hMn hMo hrowE hcell d3 d4 hrl hfl helen hgr hml
   by_cases haz:a=[48]
   ·have HSK:=Lib.hid (HSK.out haz)
    rw [haz] at d4j
    clear haz HS HQ
    go_wp2_with fail
    go_roundw
    case rel=>exact ⟨j+1,by omega,by go_num,by rw [HSK.out,HMO.out];exact hMj,hb0,hsz⟩
    case measure=>simp [intOf];omega
   ·have haz':(a == [48])=false:=by simpa using haz
    clear haz HSK
    have hbd:=below_drew hb0
    have hed:=he.below hbd
    have hEd:ErrAt wr.drew H.kt:=hMj.err.below (below_drew (Below.refl _ _))
    have y0:H.kt<wr.drew.heap.size:=x0
    have y1:gA<wr.drew.heap.size:=x1
    have y2:gr<wr.drew.heap.size:=x2
    have HL:=Lib.hid (fun (w2:World) (hb2:Below wr.drew.heap.size wr.drew w2)=>show w2.cell? ⟨H.kt,0,none⟩=some (.slice (some ⟨gA,0,none⟩) m H.c)∧w2.cell? ⟨gA,row,none⟩=some (.slice (some ⟨gr,0,none⟩) k (H.hC row))∧w2.cell? ⟨gr,j,none⟩=some (.string (B a))∧w2.frozen? ⟨gr,j,none⟩=false from
     ⟨(hb2.cell (p:=⟨H.kt,0,none⟩) y0).trans d0,(hb2.cell (p:=⟨gA,row,none⟩) y1).trans d3r,(hb2.cell (p:=⟨gr,j,none⟩) y2).trans d4j,(hb2.frozen (p:=⟨gr,j,none⟩) y2).trans (d5 j)⟩)
    clear d5
    go_wp2_with fail
    go_region_with (go_at_call 108;refine (HQ.out _ hEd hed).mono ?_;rintro e w2 ⟨rfl,hb2⟩;obtain ⟨l0,l1,l2,l3⟩:=HL.out w2 hb2)
    all_goals
     have b2:=below_lift3 hbd hb2
     have hM2:=HS.out w2 ((hMj.below (below_drew (Below.refl _ _))).below hb2)
     go_wp2_with fail
     go_roundw
     case rel=>exact ⟨j+1,by omega,by go_num,by rw [HMN.out];exact hM2,b2.setCell (Nat.le_trans hB hgr1) _,Nat.le_trans (show w.heap.size≤wr.drew.heap.size from hsz) (by rw [World.size_setCell];exact hb2.size)⟩
     case measure=>simp [intOf];omega
  ·have hjk:j=k:=by omega
   have hM1:SxM wr Bs H m k vars cols (clrM E row col 0) bs us tv:=by
    rw [clr_zero]
    rw [mixR_full (by omega) (by omega)] at hMj
    exact hMj
   have hkx:¬ (j:Int)<(k:Int):=by omega
   obtain ⟨x0,x1,x2,d0,_,_,_,_,_,_,_⟩:=KEY.out wr _ _ hM1 (fun i hi=>hO.clr_rowlen 0 (by omega))
   clear hjk hMj hml hrl hfl helen hgr
   go_wp2_with fail
   clear d0
   go_loopw [9,54] (fun _ i wr=>∃ l:Nat,l≤m∧i=.int .i64 l∧SxM wr Bs H m k vars cols (clrM E row col l) bs us tv∧Below w0.heap.size w0 wr∧w.heap.size≤wr.heap.size) (fun _ i _=>m - (intOf i).toNat)
   case atStart=>exact ⟨0,Nat.zero_le _,rfl,hM1,hb0,hsz⟩
   case round =>
    clear hM1 hb0 hsz hkx hj x0 x1 x2
    obtain ⟨l,hl,rfl,hMl,hb0,hsz⟩:=hrel
    have hfl:=HFL.out
    have helen:=HEL.out
    have hgr:=HGR.out
    have hgA:=HGA.out
    have hgp:=HGP.out
    obtain ⟨x0,x1,x2,d0,dp,db,d3,d4,d5,d6,_⟩:=KEY.out wr _ _ hMl (fun i hi=>hO.clr_rowlen l (by omega))
    have hfrow:(clrM E row col l).getD row []=scaleR (E.getD row []) (cellM E row col):=by rw [hO.clr_row l hr,if_pos (.inr rfl),clearM_row hr,if_pos rfl]
    have hro:=hMl.mat.rows row (by rw [List.length_take,hMl.elen];omega)
    rw [take_getD hrow,hfrow,hfl,hgr] at hro
    have d3row:=d3 row hrow
    rw [hgr] at d3row
    by_cases hlt:l<m
    ·have hlE:l<E.length:=by omega
     have d3l:=d3 l hlt
     by_cases hlr:l=row
     ·have HSK:=Lib.hid (hO.clr_skip hlE (.inl hlr))
      have hlr':((l:Int) != (row:Int))=false:=by rw [hlr];simp
      clear hlr d3 d4 d5 d6 hfl helen hgr hgA hgp hfrow hro
      go_wp2_with fail
      go_roundw
      case rel=>exact ⟨l+1,by omega,by go_num,by rw [HSK.out];exact hMl,hb0,hsz⟩
      case measure=>simp [intOf];omega
     ·have hlr':((l:Int) != (row:Int))=true:=by simp;omega
      have hold:(clrM E row col l).getD l []=E.getD l []:=by rw [hO.clr_row l hlE,if_neg (fun h=>h.elim (by omega) hlr)]
      obtain ⟨gl,hgl,hgl1,_,_,_⟩:=hMl.mat.row (i:=l) (by rw [List.length_take,hMl.elen];omega) (by rw [take_getD hlt,hold,hO.rowlen hlE];omega)
      have hrol:=hMl.mat.rows l (by rw [List.length_take,hMl.elen];omega)
      rw [take_getD hlt,hold,hO.rowlen hlE,hgl] at hrol
      have hck:=clrOK_of hO hlE hlr
      rw [hgl] at d3l
      have hne1:gl≠gr:=fun e=>hMl.mat.apart l row (by rw [List.length_take,hMl.elen];omega) (by rw [List.length_take,hMl.elen];omega) hlr _ hgl (by rw [hgr,e])
      have hne2:gl≠H.kt:=fun e=>hrol.not hMl.obj (by decide) (by rw [e])
      have hne3:gl≠gA:=fun e=>hMl.mat.apart0 l (by rw [List.length_take,hMl.elen];omega) _ hgl (by rw [hgA,e])
      have HC:=Lib.hid (sxclear_any hck hD Bs H.kt gA gr gl m H.c (H.hC row) (H.hC l) (H.hR row) (H.hR l) row col w0 wr hb0 hB hMl.err d0 x1 d3row hro hrol (by unfold maxLen;exact hcr) (by have:=hMl.mat.caps l (by rw [List.length_take,hMl.elen];omega);rwa [take_getD hlt,hold,hO.rowlen hlE] at this) hrow hc rfl hk (by omega) hcap.1 hne1 hne2 hne3 he)
      have HNX:=Lib.hid (fun (w':World) (h1:OwnS w' Bs 29 (some ⟨gl,0,none⟩) k (H.hR l) (strs (lessR (E.getD l []) (scaleR (E.getD row []) (cellM E row col)) (cellM E l col)))) (h2:KeptB gl wr w')=>show SxM w' Bs H m k vars cols (clrM E row col (l+1)) bs us tv by
       have hnl:=hck.len
       have:=hMl.row (w':=w') (i:=l) (g:=gl) (r:=lessR (E.getD l []) (scaleR (E.getD row []) (cellM E row col)) (cellM E l col)) hlt hgl (by rw [hnl];exact h1) (by rw [hnl,hold,hO.rowlen hlE]) h2
       rw [← clr_new hO hlE hlr,clr_succ hlE] at this
       exact this)
      clear hck hro hrol hMl d3 d4 d5 d6 hlr hold hfrow hne1 hne2 hne3 x0 x2 hfl helen hgr hgA hgp hgl
      generalize lessR (E.getD l []) (scaleR (E.getD row []) (cellM E row col)) (cellM E l col)=nl at *
      go_wp2_with fail
      refine HC.out.mono ?_
      rintro e w2 ⟨rfl,hown,hb2,hk2⟩
      have hM2:=HNX.out w2 hown hk2
      clear HNX HC d0 dp db d3l d3row
      go_wp2_with fail
      go_roundw
      case rel=>exact ⟨l+1,by omega,by go_num,hM2,hb2,Nat.le_trans hsz hk2.1⟩
      case measure=>simp [intOf];omega
    ·have hlm:l=m:=by omega
     have hmE:m<E.length:=by omega
     have hmr:m≠row:=by omega
     have hlx:¬ (l:Int)<(m:Int):=by omega
     subst hlm
     have hold:(clrM E row col l).getD l []=E.getD l []:=by rw [hO.clr_row l hmE,if_neg (fun h=>h.elim (by omega) hmr)]
     have hrol:=hMl.pri
     rw [hold,hgp] at hrol
     have hck:=clrOK_of hO hmE hmr
     have hne1:gp≠gr:=fun e=>hMl.prn row hrow _ hgr (by rw [hgp,e])
     have hne2:gp≠H.kt:=fun e=>hrol.not hMl.obj (by decide) (by rw [e])
     have hne3:gp≠gA:=fun e=>by
      have h1:=hMl.mat.outer
      rw [hgA] at h1
      exact h1.ne hrol (by decide) (by rw [e])
     have HC:=Lib.hid (sxclear_any hck hD Bs H.kt gA gr gp l H.c (H.hC row) H.cp (H.hR row) H.cp row col w0 wr hb0 hB hMl.err d0 x1 d3row hro hrol (by unfold maxLen;exact hcr) (by unfold maxLen;exact hcp) hrow hc rfl hk (by omega) hcap.1 hne1 hne2 hne3 he)
     have HNX:=Lib.hid (fun (w':World) (h1:OwnS w' Bs 29 (some ⟨gp,0,none⟩) k H.cp (strs (lessR (E.getD l []) (scaleR (E.getD row []) (cellM E row col)) (cellM E l col)))) (h2:KeptB gp wr w')=>show SxM w' Bs H l k vars cols (clearM E row col) bs us tv by
      have:=hMl.price (w':=w') (g:=gp) (r:=lessR (E.getD l []) (scaleR (E.getD row []) (cellM E row col)) (cellM E l col)) hgp h1 h2
      rw [← clr_new hO hmE hmr,clr_succ hmE,← helen,clr_full] at this
      exact this)
     clear hck hro hrol hMl d3 d4 d5 d6 hold hfrow hne1 hne2 hne3 x0 x2 hfl helen hgr hgA hgp
     generalize lessR (E.getD l []) (scaleR (E.getD row []) (cellM E row col)) (cellM E l col)=nl at *
     go_wp2_with fail
     refine HC.out.mono ?_
     rintro e w2 ⟨rfl,hown,hb2,hk2⟩
     have hM2:=HNX.out w2 hown hk2
     obtain ⟨_,_,_,d0,_,d2,_,_,_,d6,d7⟩:=KEY.out w2 _ _ hM2 (fun i hi=>hO.newlen (by omega))
     obtain ⟨v7,d7⟩:=d7 row hrow
     have d6r:=d6 row
     clear HNX HC dp db d3row d6 hlx hown
     go_wp2_with fail
     go_end0
     exact ⟨rfl,hM2.basis HGB.out,hb2.setCell (Nat.le_trans hB hgb1) _,by rw [World.size_setCell];exact Nat.le_trans hsz hk2.1⟩
end Go.Proofs.YtmppmdmekomjbaaGreatDoor

/- prooftext's reader: leaf. -/
import Derived.Test.YtljekdpgjaahjaaGreatDoorG60
import Derived.Test.YtljekdpgjaahjaaGreatDoorG61
import Derived.Deep.RegionLaw
namespace Go.Proofs.YtljekdpgjaahjaaGreatDoor
open Go.RowKit Num Txt Pf
set_option linter.unusedVariables false
attribute [local go_sem] B_size B_get B_toList B_mk B_extract B_append
section
variable {P:Program} {ops:Array Oper} {rest:List Oper} {o:Oper} {a:Act} {Q:Exit→Act→World→Prop}
theorem step_appk {K:Act→World→Prop} {E:Prop} {t e:TypeId} {z:Value} {sz bytes:Nat} (he:ElemR P t e z sz bytes) (hgd:o.guard=none) (s x:Operand) (ho:o.op=.call { callee:=.builtin .append,args:=#[s,x],argTypes:=#[t,t] })
  (Bs:Nat) (A:Option Addr) (n c:Nat) (xs:List Value) (w:World) (g1:Nat) (us:List Value) (hs:a.eval s=.slice A n c) (hown:OwnR w Bs e sz A n c xs)
  (hx:a.eval x=.slice (some ⟨g1,0,none⟩) 1 1) (hus:us.length=sz) (hcell:∀ j u,us[j]? = some u→w.cell? ⟨g1,j,none⟩=some u) (h1:∀ u ∈ us,u.oneCell'=true) (h63:n+1≤maxLen) (hby:(n+1)*bytes≤140737488355328) (hbase:Bs≤w.heap.size)
  (hK:∀ A' c' w',OwnR w' Bs e sz A' (n+1) c' (xs ++ us)→Below Bs w w'→KpA A w w'→K (a.put o.dst (.slice A' (n+1) c')) w') :
  if Region.wanted o (yielded ops a.tmps)=true then Oper.wp P o a w K Q else E:=by
 obtain ⟨ht,⟨i,hi,hz,hsz,hb⟩,hzs,hpos⟩:=he
 have hw:Region.wanted o (yielded ops a.tmps)=true:=by simp [Region.wanted,hgd]
 rw [if_pos hw]
 have hb0:∀ k,(Value.slice A n c).ownBlock=some k→Bs≤k:=by
  intro k hk
  rcases hown.2 with ⟨hv,_⟩ | ⟨g',cap',cur',hv,hg',_⟩
  ·rw [hv] at hk;simp [Value.ownBlock] at hk
  ·rw [hv] at hk;simp [Value.ownBlock] at hk;omega
 have hc:∀ j u,us[j]? = some u→w.cell? ((⟨g1,0,none⟩:Addr).add j)=some u:=by
  intro j u hj
  have h0:=hcell j u hj
  unfold Addr.add
  split
  ·rename_i h1;subst h1;exact h0
  ·show w.cell? ⟨g1,0+j,none⟩=_
   rw [Nat.zero_add];exact h0
 obtain ⟨v',w',hrun,r1,r2,r3⟩:=run_append_own (P:=P) w Bs t o.type e i z sz bytes ht hi hz hsz hb hzs hpos (.slice A n c) n xs hown ⟨g1,0,none⟩ 1 1 us (by omega) hc h1 h63 hby hbase
 have hne:v'≠.slice none 0 0:=by intro e;have:=(r3.1 e).2;omega
 obtain ⟨A',c',hv⟩:∃ A' c',v'=.slice A' (n+1) c':=by
  rcases r1.2 with ⟨hv,_⟩ | ⟨g,cap,cur,hv,_⟩
  ·exact absurd hv hne
  ·exact ⟨_,_,hv⟩
 subst hv
 unfold Oper.wp
 simp [execOp,ho,resolve,invoke,builtin,hs,hx,hrun,Result.andThen]
 have hbw:=(Below.refl Bs w).grown r2 hbase hb0
 refine hK A' c' w' r1 hbw ⟨hbw.size,fun k hk hA=>?_⟩
 have hne2:some k≠(Value.slice A n c).ownBlock:=by
  rcases hown.2 with ⟨hv,_⟩ | ⟨g',cap',cur',hv,hg',_⟩
  ·rw [hv];simp [Value.ownBlock]
  ·injection hv with hv1 _ _
   rw [hv1]
   intro e
   have:k=g':=by simpa [Value.ownBlock] using e
   exact hA 0 none (by rw [hv1,this])
 exact r2.block k hk hne2
end
theorem cells_newP {w:World} {e:TypeId} {us:List Value}:∀ j u,us[j]? = some u→(w.alloc (.cells us.toArray e)).cell? ⟨w.heap.size,j,none⟩=some u:=by
 intro j u hj
 rw [World.cell?_alloc_new]
 simpa using hj
abbrev nodeZ:Obj:=.cells #[.bool false,.int .i64 0,.slice none 0 0,.slice none 0 0,.int .i64 0,.int .i64 0,.int .i64 0,.int .i64 0,.int .i64 0,.int .i64 0] 45
structure LeafB (w:World) (Bs nb rb:Nat) (kd:Int) (X:Option Addr) (cx:Nat) (cs:List (Int × Int × Int)) (Y:Option Addr) (cy:Nat) (ds:List Str):Prop where
 row:w.heap[nb]? = some (.cells #[.bool true,.int .i64 kd,.slice X cs.length cx,.slice Y ds.length cy,.int .i64 0,.int .i64 0,.int .i64 0,.int .i64 0,.int .i64 0,.int .i64 0] 45)
 res:w.heap[rb]? = some nodeZ
 cuts:OwnR w Bs 107 3 X cs.length cx (cs.flatMap cutC)
 dual:OwnR w Bs 46 1 Y ds.length cy (strs ds)
 cutsF:∀ c ∈ cs,fits c.1∧fits c.2.1∧fits c.2.2
 dualF:∀ d ∈ ds,d.length≤maxLen
section
variable {w w':World} {Bs nb rb g cx cy:Nat} {kd:Int} {X Y:Option Addr} {cs:List (Int × Int × Int)} {ds:List Str}
theorem LeafB.below (h:LeafB w Bs nb rb kd X cx cs Y cy ds) (hb:Below w.heap.size w w'):LeafB w' Bs nb rb kd X cx cs Y cy ds:=⟨row_keep h.row hb,row_keep h.res hb,h.cuts.below hb,h.dual.below hb,h.cutsF,h.dualF⟩
theorem LeafB.kpB {s:Str} {n:Nat} (h:LeafB w Bs nb rb kd X cx cs Y cy ds) (hk:KpB g w w') (hg:RdAt w g s n) (h1:nb≠g) (h2:rb≠g):LeafB w' Bs nb rb kd X cx cs Y cy ds :=
 ⟨hk.row h.row h1,hk.row h.res h2,h.cuts.keptB hk hg (by decide),h.dual.keptB hk hg (by decide),h.cutsF,h.dualF⟩
end
def NodeE (o:Option NodeV × List Str × Nat) (g:Nat) (t:Str) (N:Nat) (w:World) (e:Ending) (w':World):Prop:=∃ (m:NodeM) (b:Bool) (s':Str),e=.returned (.tuple #[nodeA m,.bool b])∧o.1=(if b then some m.n else none)∧(b=true→NodeO w' w.heap.size m)∧RdAt w' g s' o.2.2∧LinesOf s' o.2.1 t∧s'.length≤N∧KpB g w w'
theorem cutR_w {l:Str}:cutR l=if wordsE l=0 then (match numsR (wordsL l) cutW 3 with
 |some [a,b,c]=>some (a,b,c)
 |_=>none) else none:=by
 unfold cutR lineN
 by_cases h:wordsE l=0
 ·rw [if_pos h,if_pos h];rfl
 ·rw [if_neg h,if_neg h]
theorem dualR_w {l:Str}:dualR l=if wordsE l=0 then (match wordsL l with
 |[a,b]=>if a=dualW∧rightQ b=true then some b else none
 |_=>none) else none:=rfl
theorem KpB.out {w w1:World} {g b:Nat} (h:KpB g w w1) (hb:w.heap.size≤b) (j:Nat) (u:Value):KpB g w (w1.setCell ⟨b,j,none⟩ u) :=
 ⟨by rw [World.size_setCell];exact h.1,fun k hk hne=>(Below.heap_setCell _ _ _ _ (by show k≠b;omega)).trans (h.2 k hk hne),h.strm⟩
theorem KpB.belowB {w w1 w2:World} {g:Nat} (h:KpB g w w1) (hb:Below w.heap.size w1 w2):KpB g w w2 :=
 ⟨Nat.le_trans h.1 hb.size,fun k hk hne=>(hb.block k hk).trans (h.2 k hk hne),hb.os.trans h.strm.1,hb.tape.trans h.strm.2.1,hb.output.trans h.strm.2.2⟩
theorem KpB.below_own {w w1 w2:World} {g:Nat} (hb:Below w.heap.size w w1) (hk:KpB g w1 w2) (hg:w.heap.size≤g):Below w.heap.size w w2 :=
 ⟨hk.strm.1.trans hb.os,hk.strm.2.1.trans hb.tape,hk.strm.2.2.trans hb.output,Nat.le_trans hb.size hk.1,fun k h=>(hk.2 k (Nat.lt_of_lt_of_le h hb.size) (by omega)).trans (hb.block k h)⟩
theorem NodeE.fin {o:Option NodeV × List Str × Nat} {g rb N:Nat} {t s':Str} {w w5:World} {m:NodeM} {b:Bool} {x0 x1 x2 x3 x4 x5 x6 x7 x8 x9:Value} (h1:o.1=(if b then some m.n else none)) (h2:b=true→NodeO w5 w.heap.size m) (hr:RdAt w5 g s' o.2.2) (hL:LinesOf s' o.2.1 t) (hN:s'.length≤N) (hk:KpB g w w5) (hres:w5.heap[rb]? = some nodeZ) (hrb:w.heap.size≤rb) (hne:g≠rb) :
  NodeE o g t N w (.returned (.tuple #[nodeA m,.bool b])) ((((((((((w5.setCell ⟨rb,0,none⟩ x0).setCell ⟨rb,1,none⟩ x1).setCell ⟨rb,2,none⟩ x2).setCell ⟨rb,3,none⟩ x3).setCell ⟨rb,4,none⟩ x4).setCell ⟨rb,5,none⟩ x5).setCell ⟨rb,6,none⟩ x6).setCell ⟨rb,7,none⟩ x7).setCell ⟨rb,8,none⟩ x8).setCell ⟨rb,9,none⟩ x9):=by
 have k1:=((((((((((KpB.refl rb w5).store 0 x0).store 1 x1).store 2 x2).store 3 x3).store 4 x4).store 5 x5).store 6 x6).store 7 x7).store 8 x8).store 9 x9
 have k2:=(((((((((hk.out hrb 0 x0).out hrb 1 x1).out hrb 2 x2).out hrb 3 x3).out hrb 4 x4).out hrb 5 x5).out hrb 6 x6).out hrb 7 x7).out hrb 8 x8).out hrb 9 x9
 exact ⟨m,b,s',rfl,h1,fun hb=>(h2 hb).keptB k1 hres (by decide) (by decide),k1.row hr hne,hL,hN,k2⟩
theorem manyA_no {α} {f:Str→Option α} {acc:List α} {k n:Nat} {l:Str} {ls:List Str} (h:f l=none):manyA f acc (k+1) (l :: ls) n=(none,ls,n+1):=by rw [manyA];rw [h]
theorem manyA_yes {α} {f:Str→Option α} {acc:List α} {k n:Nat} {l:Str} {ls:List Str} {c:α} (h:f l=some c):manyA f acc (k+1) (l :: ls) n=manyA f (acc ++ [c]) k ls (n+1):=by rw [manyA];rw [h]
theorem dual_ok {l:Str} {okb:Bool} (hok:okb=(wordsE l == 0 && decide (0<(wordsL l).length))) :
  (okb=false→dualR l=none)∧((wordsL l).length≠2→dualR l=none)∧(∀ a b,wordsL l=[a,b]→(a≠dualW→dualR l=none)∧(rightQ b=false→dualR l=none)∧(okb=true→a=dualW→rightQ b=true→dualR l=some b)):=by
 rw [dualR_w]
 refine ⟨fun h=>?_,fun h=>?_,fun a b h=>⟨fun h1=>?_,fun h1=>?_,fun h1 h2 h3=>?_⟩⟩
 ·by_cases h1:wordsE l=0
  ·rw [if_pos h1]
   rw [hok,h1] at h
   have h3:¬ 0<(wordsL l).length:=by simpa using h
   have h4:wordsL l=[]:=List.length_eq_zero_iff.1 (by omega)
   rw [h4]
  ·rw [if_neg h1]
 ·by_cases h1:wordsE l=0
  ·rw [if_pos h1]
   match hw:wordsL l with
   |[]=>rfl
   |[_]=>rfl
   |[_,_]=>rw [hw] at h;exact absurd rfl h
   |_ :: _ :: _ :: _=>rfl
  ·rw [if_neg h1]
 ·by_cases h2:wordsE l=0
  ·rw [if_pos h2,h]
   exact if_neg fun x=>h1 x.1
  ·rw [if_neg h2]
 ·by_cases h2:wordsE l=0
  ·rw [if_pos h2,h]
   exact if_neg fun x=>by rw [h1] at x;exact absurd x.2 (by decide)
  ·rw [if_neg h2]
 ·rw [hok,Bool.and_eq_true,beq_iff_eq] at h1
  rw [if_pos h1.1,h]
  exact if_pos ⟨h2,h3⟩
theorem own2s {w:World} {Bs:Nat} {A:Option Addr} {c:Nat} {x y:Str} (h:OwnS w Bs 9 A 2 c (strs [x,y])):∃ g,A=some ⟨g,0,none⟩∧Bs≤g∧g<w.heap.size∧2≤c∧w.cell? ⟨g,0,none⟩=some (.string (B x))∧w.cell? ⟨g,1,none⟩=some (.string (B y)):=by
 obtain ⟨g,hA,hg,hlt,hc,_⟩:=h.at_ (by omega)
 exact ⟨g,hA,hg,hlt,h.cap.1,by rw [hc 0 (by omega)];rfl,by rw [hc 1 (by omega)];rfl⟩
theorem fits_zero:fits 0:=by decide
theorem cut_ok {l:Str} {okb rb:Bool} {ks:List Int} (hok:okb=(wordsE l == 0 && decide (0<(wordsL l).length))) (hr:numsR (wordsL l) cutW 3=(if rb then some ks else none)) :
  (okb=true→rb=true→∃ x y z,ks=[x,y,z]∧cutR l=some (x,y,z)∧fits x∧fits y∧fits z)∧(okb=false∨rb=false→cutR l=none):=by
 rw [cutR_w]
 constructor
 ·intro h1 h2
  rw [hok,Bool.and_eq_true,beq_iff_eq] at h1
  rw [h2,if_pos rfl] at hr
  obtain ⟨h3,h4⟩:=nums_len hr
  obtain ⟨x,y,z,rfl⟩:=three_of h3
  rw [if_pos h1.1,hr]
  exact ⟨x,y,z,rfl,rfl,h4 x (by simp),h4 y (by simp),h4 z (by simp)⟩
 ·intro h
  by_cases h1:wordsE l=0
  ·rw [if_pos h1]
   have h2:numsR (wordsL l) cutW 3=none:=by
    rcases h with h | h
    ·rw [hok,h1] at h
     have h3:¬ 0<(wordsL l).length:=by simpa using h
     have h4:wordsL l=[]:=List.length_eq_zero_iff.1 (by omega)
     rw [h4];rfl
    ·rw [hr,h];rfl
   rw [h2]
  ·rw [if_neg h1]
set_option maxHeartbeats 8000000 in
set_option maxRecDepth 100000 in
theorem leaf_any (g:Nat) (s t:Str) (ls:List Str) (n:Nat) (kd a b:Int) (HA:Option Addr) (hc Bs0:Nat) (w:World) (h:RdAt w g s n) (hL:LinesOf s ls t) (hs:s.length≤70000) (hn:n≤70000) (hll:ls.length≤70000) (hh:OwnS w Bs0 3 HA 3 hc (ints [kd,a,b])) (hg:g<Bs0) (hf:fits kd) (he:EnvP w) :
  Calls Tryz.prog 73 #[.pointer (some ⟨g,0,none⟩),.slice HA 3 hc] w (NodeE (leafA kd a b ls n) g t s.length w):=by
 obtain ⟨q,rfl,hB,hq,hcap,x0,x1,x2⟩:=own3 hh
 have hgq:q≠g:=by omega
 have hgl:=lt_heap h
 have HC:=Lib.hid (fun wr (hk:KpB g w wr)=>(⟨(World.cell?_of_block (w:=w) (w':=wr) (a:=⟨q,0,none⟩) (hk.2 q hq hgq)).trans x0,(World.cell?_of_block (w:=w) (w':=wr) (a:=⟨q,1,none⟩) (hk.2 q hq hgq)).trans x1,(World.cell?_of_block (w:=w) (w':=wr) (a:=⟨q,2,none⟩) (hk.2 q hq hgq)).trans x2⟩:wr.cell? ⟨q,0,none⟩=some (.int .i64 kd)∧wr.cell? ⟨q,1,none⟩=some (.int .i64 a)∧wr.cell? ⟨q,2,none⟩=some (.int .i64 b)))
 obtain ⟨n1,p1⟩:=new_at w nodeZ
 obtain ⟨n2,p2⟩:=new_at (w.alloc nodeZ) (.cells #[.bool true,.int .i64 kd,.slice none 0 0,.slice none 0 0,.int .i64 0,.int .i64 0,.int .i64 0,.int .i64 0,.int .i64 0,.int .i64 0] 45)
 have hs1:(w.alloc nodeZ).heap.size=w.heap.size+1:=Array.size_push ..
 have q2:=row_keep p1 n2
 have hb2:=below_lift n1 n2
 rw [hs1] at p2
 have HRD:=Lib.hid (show ∀ w',Below w.heap.size w w'→RdAt w' g s n from fun w' hb=>h.below hb)
 have HE:=Lib.hid (fun wr (hk:KpB g w wr)=>he.kp hk h)
 have HLS:=Lib.hid hL
 have HG:=Lib.hid (show g≠w.heap.size∧g≠w.heap.size+1∧w.heap.size≠w.heap.size+1∧w.heap.size≤w.heap.size+1 from ⟨by omega,by omega,by omega,by omega⟩)
 have hp2:w.heap.size<((w.alloc nodeZ).alloc (.cells #[.bool true,.int .i64 kd,.slice none 0 0,.slice none 0 0,.int .i64 0,.int .i64 0,.int .i64 0,.int .i64 0,.int .i64 0,.int .i64 0] 45)).heap.size:=lt_heap q2
 have d0:=(HC.out _ (KpB.of_below n1)).1
 clear n1 n2 p1 hs1 h hL he hB hgq hgl hq
 go_enter Tryz.func73,Tryz.ntmps73
 simp only [B_mk]
 go_upto_region 2 with fail
 generalize (w.alloc nodeZ).alloc (.cells #[.bool true,.int .i64 kd,.slice none 0 0,.slice none 0 0,.int .i64 0,.int .i64 0,.int .i64 0,.int .i64 0,.int .i64 0,.int .i64 0] 45)=w2 at *
 generalize w.heap.size+1=nb at *
 have HL2:=Lib.hid (⟨p2,q2,OwnR.nil _ _ _ _,OwnR.nil _ _ _ _,fun c hc=>absurd hc (by simp),fun c hc=>absurd hc (by simp)⟩:LeafB w2 w.heap.size nb w.heap.size kd none 0 [] none 0 [])
 have HB2:=Lib.hid hb2
 have HRD2:=Lib.hid (HRD.out w2 hb2)
 clear x0 x1 x2 p2 q2 hb2 HRD hh d0 hp2
 by_cases hab:a<0∨b<0
 ·have HR:=Lib.hid (show leafA kd a b ls n=(none,ls,n) by unfold leafA;rw [if_pos hab])
  generalize leafA kd a b ls n=R at *
  obtain rfl:=HR.out
  obtain ⟨x0,x1,x2⟩:=HC.out w2 (KpB.of_below HB2.out)
  obtain ⟨a0,a1,a2,a3,a4,a5,a6,a7,a8,a9⟩:=cells10 HL2.out.row
  obtain ⟨r0,r1,r2,r3,r4,r5,r6,r7,r8,r9⟩:=cells10 HL2.out.res
  have z:=frz HL2.out.res
  have z0:=z 0
  have z1:=z 1
  have z2:=z 2
  have z3:=z 3
  have z4:=z 4
  have z5:=z 5
  have z6:=z 6
  have z7:=z 7
  have z8:=z 8
  have z9:=z 9
  clear z
  have hab2:a<0∨(¬ a<0∧b<0):=by omega
  rcases hab2 with ha | ⟨ha,hb⟩
  all_goals
   go_wp2_with fail
   (try simp only [Exit.inBlock,Exit.then])
   refine bodyPost_ret (res_row rfl (ld_node (pset10 HL2.out.res)) rfl rfl) rfl ?_
   exact .fin (m:=⟨none,0,none,0,⟨true,kd,[],[],0,0,0,0,0,0⟩⟩) (b:=false) rfl (fun h=>by cases h) HRD2.out HLS.out (Nat.le_refl _) (KpB.of_below HB2.out) HL2.out.res (Nat.le_refl _) HG.out.1
 ·have HR:=Lib.hid (show leafA kd a b ls n=(match manyA cutR [] a.toNat ls n with
   |(none,ls1,n1)=>(none,ls1,n1)
   |(some cs,ls1,n1)=>match manyA dualR [] b.toNat ls1 n1 with
    |(none,ls2,n2)=>(none,ls2,n2)
    |(some ds,ls2,n2)=>(some ⟨true,kd,cs,ds,0,0,0,0,0,0⟩,ls2,n2)) by unfold leafA;rw [if_neg hab];rfl)
  obtain ⟨ka,rfl⟩:∃ k:Nat,a=k:=⟨a.toNat,by omega⟩
  obtain ⟨kb,rfl⟩:∃ k:Nat,b=k:=⟨b.toNat,by omega⟩
  have ha:¬ (ka:Int)<0:=by omega
  have hb:¬ (kb:Int)<0:=by omega
  rw [Int.toNat_natCast,Int.toNat_natCast] at HR
  generalize leafA kd ka kb ls n=R at *
  obtain ⟨x0,x1,x2⟩:=HC.out w2 (KpB.of_below HB2.out)
  clear hab
  go_upto_region 5 with fail
  clear x0 x1 x2 ha hb
  go_loopw [7,8,9,10,31] (fun _ _ _ _ i wr=>∃ (kk:Nat) (s':Str) (ls':List Str) (X:Option Addr) (cx:Nat) (cs:List (Int × Int × Int)),i=.int .i64 kk∧kk≤ka∧RdAt wr g s' (n+kk)∧LinesOf s' ls' t∧s'.length≤s.length∧kk+ls'.length=ls.length∧manyA cutR [] ka ls n=manyA cutR cs (ka - kk) ls' (n+kk)∧cs.length=kk∧LeafB wr w.heap.size nb w.heap.size kd X cx cs none 0 []∧KpB g w wr) (fun _ _ _ _ i _=>ka - (intOf i).toNat)
  case atStart=>exact ⟨0,s,ls,none,0,[],rfl,by omega,HRD2.out,HLS.out,Nat.le_refl _,by omega,rfl,rfl,HL2.out,KpB.of_below HB2.out⟩
  case round =>
   clear HL2 HB2 HRD2
   obtain ⟨kk,s',ls',X,cx,cs,rfl,hkk,hrd,hls,hsl,hll2,hmany,hcl,hlb,hkp⟩:=hrel
   have HRD:=Lib.hid hrd
   have HLS2:=Lib.hid hls
   have HMANY:=Lib.hid hmany
   have HCL:=Lib.hid hcl
   have HLB:=Lib.hid hlb
   have HKP:=Lib.hid hkp
   clear hrd hls hmany hcl hlb hkp
   by_cases hlt:kk<ka
   ·have hlt1:(kk:Int)<(ka:Int):=by omega
    have hsub:ka - kk=(ka - kk - 1)+1:=by omega
    cases ls' with
    |nil =>
     have HG2:=Lib.hid (show R=(none,[],n+kk+1) by rw [HR.out,HMANY.out,hsub];rfl)
     have HNX:=Lib.hid (next_nil g s' t (n+kk) wr HRD.out HLS2.out (by omega) (by omega) (HE.out wr HKP.out))
     go_wp2_with fail
     refine HNX.out.mono ?_
     rintro e w3 ⟨rfl,hk3,hr3⟩
     have HK3:=Lib.hid (HKP.out.trans hk3)
     have HL3:=Lib.hid (HLB.out.kpB hk3 HRD.out HG.out.2.1.symm HG.out.1.symm)
     have HR3:=Lib.hid hr3
     have HNM:=Lib.hid (pnumbers_any [] none 0 cutW 3 w3 (Cells.nil _ _) ⟨Nat.le_refl _,by unfold maxLen;omega⟩ (fun x hx=>absurd hx (by simp)) ⟨by decide,by decide⟩ (HE.out w3 (HKP.out.trans hk3)).2)
     clear hk3 hr3 HNX HKP HLB HRD
     go_wp2_with fail
     refine HNM.out.mono ?_
     rintro e w4 ⟨A1,c1,ks,b1,rfl,ho,_,hb4⟩
     have HK4:=Lib.hid (HK3.out.below hb4)
     have HL4:=Lib.hid (HL3.out.below hb4)
     have HR4:=Lib.hid (HR3.out.below hb4)
     clear ho hb4 HK3 HL3 HR3 HNM
     obtain ⟨a0,a1,a2,a3,a4,a5,a6,a7,a8,a9⟩:=cells10 HL4.out.row
     obtain ⟨r0,r1,r2,r3,r4,r5,r6,r7,r8,r9⟩:=cells10 HL4.out.res
     have z:=frz HL4.out.res
     have z0:=z 0
     have z1:=z 1
     have z2:=z 2
     have z3:=z 3
     have z4:=z 4
     have z5:=z 5
     have z6:=z 6
     have z7:=z 7
     have z8:=z 8
     have z9:=z 9
     clear z
     go_wp2_with fail
     (try simp only [Exit.inBlock,Exit.then])
     refine bodyPost_ret (res_row rfl (ld_node (pset10 HL4.out.res)) rfl rfl) rfl ?_
     obtain rfl:=HG2.out
     exact .fin (m:=⟨X,cx,none,0,⟨true,kd,cs,[],0,0,0,0,0,0⟩⟩) (b:=false) rfl (fun h=>by cases h) HR4.out HLS2.out hsl HK4.out HL4.out.res (Nat.le_refl _) HG.out.1
    |cons l ls' =>
     obtain ⟨hse,_,hl2⟩:=HLS2.out.cons
     have hsl2:s'.length=l.length+1+(unl ls' ++ t).length:=by
      have:=congrArg List.length hse
      rw [List.length_append,List.length_cons] at this
      omega
     rw [List.length_cons] at hll2
     have HNX:=Lib.hid (next_cons g s' l t ls' (n+kk) wr HRD.out HLS2.out (by omega) (by omega) (HE.out wr HKP.out))
     have HWL:=Lib.hid (wordsL_le l)
     have HL2:=Lib.hid hl2
     have HG0:=Lib.hid (show cutR l=none→R=(none,ls',n+kk+1) from fun h=>by
      rw [HR.out,HMANY.out,hsub,manyA_no h])
     have HG1:=Lib.hid (show ∀ c,cutR l=some c→manyA cutR [] ka ls n=manyA cutR (cs ++ [c]) (ka - (kk+1)) ls' (n+(kk+1)) from fun c h=>by
      rw [HMANY.out,hsub,manyA_yes h,show ka - kk - 1=ka - (kk+1) by omega];rfl)
     clear hse hl2 hsub
     generalize hok:(wordsE l == 0 && decide (0<(wordsL l).length))=okb at *
     have HCUT:=Lib.hid (fun rb ks hr=>cut_ok (l:=l) (okb:=okb) (rb:=rb) (ks:=ks) hok.symm hr)
     clear hok
     generalize unl ls' ++ t=rs at *
     generalize wordsL l=wl at *
     go_wp2_with fail
     refine HNX.out.mono ?_
     rintro e w3 ⟨WA,wc,rfl,hown,hk3,hr3⟩
     have HK3:=Lib.hid (HKP.out.trans hk3)
     have HL3:=Lib.hid (HLB.out.kpB hk3 HRD.out HG.out.2.1.symm HG.out.1.symm)
     have HR3:=Lib.hid hr3
     have HNM:=Lib.hid (pnumbers_any wl WA wc cutW 3 w3 hown.cells hown.cap (fun x hx=>by have:=HWL.out.2 x hx;omega) ⟨by decide,by decide⟩ (HE.out w3 (HKP.out.trans hk3)).2)
     clear hk3 hr3 HNX HKP HLB HRD hown
     go_wp2_with fail
     refine HNM.out.mono ?_
     rintro e w4 ⟨A1,c1,ks,b1,rfl,ho,hown4,hb4⟩
     have HK4:=Lib.hid (HK3.out.below hb4)
     have HL4:=Lib.hid (HL3.out.below hb4)
     have HR4:=Lib.hid (HR3.out.below hb4)
     have HCT:=Lib.hid (HCUT.out b1 ks ho)
     have HNB:=Lib.hid (lt_heap HL3.out.row)
     clear ho hb4 HK3 HL3 HR3 HNM HCUT
     by_cases hgood:okb=true∧b1=true
     ·obtain ⟨rfl,rfl⟩:=hgood
      obtain ⟨x,y,z,rfl,hcr,hfx,hfy,hfz⟩:=HCT.out.1 rfl rfl
      obtain ⟨q4,rfl,hq4,hlt4,hcap4,x0,x1,x2⟩:=own3 hown4
      obtain ⟨_,_,curq,hcur⟩:=OwnR.typ (show OwnR w4 w3.heap.size 3 1 (some ⟨q4,0,none⟩) 3 c1 (ints [x,y,z]) from hown4)
      have hfar4:=HL4.out.cuts.far hcur (by decide)
      have hqn:q4≠nb:=by have:=HNB.out;omega
      clear hcur hq4
      have HMN:=Lib.hid (HG1.out _ hcr)
      have HF3:=Lib.hid (⟨hfx,hfy,hfz⟩:fits x∧fits y∧fits z)
      clear hcr hfx hfy hfz HCT hown4 HG0 HG1
      obtain ⟨a0,a1,a2,a3,a4,a5,a6,a7,a8,a9⟩:=cells10 HL4.out.row
      have z2:=frz HL4.out.row 2
      have hcb:cs.length≤70000:=by rw [HCL.out];omega
      have HLD:=Lib.hid (HL4.out.below (new_at w4 (.cells #[.int .i64 x,.int .i64 y,.int .i64 z] 107)).1.drew)
      have HCN:=Lib.hid (show ∀ j u,[Value.int .i64 x,.int .i64 y,.int .i64 z][j]? = some u→((w4.alloc (.cells #[.int .i64 x,.int .i64 y,.int .i64 z] 107)).drew).cell? ⟨w4.heap.size,j,none⟩=some u from cells_newP)
      have HSZ:=Lib.hid (show w.heap.size≤((w4.alloc (.cells #[.int .i64 x,.int .i64 y,.int .i64 z] 107)).drew).heap.size from Nat.le_trans HK4.out.1 (new_at w4 (.cells #[.int .i64 x,.int .i64 y,.int .i64 z] 107)).1.size)
      have HON:=Lib.hid (show ∀ u ∈ [Value.int .i64 x,.int .i64 y,.int .i64 z],u.oneCell'=true from by intro u hu;simp at hu;rcases hu with rfl | rfl | rfl <;> rfl)
      have HSK:=Lib.hid (show ∀ w',w'.heap[q4]? = w4.heap[q4]? → w'.cell? ⟨q4,0,none⟩=some (.int .i64 x)∧w'.cell? ⟨q4,1,none⟩=some (.int .i64 y)∧w'.cell? ⟨q4,2,none⟩=some (.int .i64 z) from fun w' hb=>⟨(World.cell?_of_block (w:=w4) (w':=w') (a:=⟨q4,0,none⟩) hb).trans x0,(World.cell?_of_block (w:=w4) (w':=w') (a:=⟨q4,1,none⟩) hb).trans x1,(World.cell?_of_block (w:=w4) (w':=w') (a:=⟨q4,2,none⟩) hb).trans x2⟩)
      have HSA:=Lib.hid (show ((w4.alloc (.cells #[.int .i64 x,.int .i64 y,.int .i64 z] 107)).drew).heap[q4]? = w4.heap[q4]? from (new_at w4 (.cells #[.int .i64 x,.int .i64 y,.int .i64 z] 107)).1.block _ hlt4)
      have HFA:=Lib.hid (hfar4:∀ off sp,X≠some ⟨q4,off,sp⟩)
      have HQN:=Lib.hid (hqn:q4≠nb)
      have hS0:=HSK.out w4.drew rfl
      obtain ⟨_,_,g2,_⟩:=cells10 HLD.out.row
      go_upto_region 10 with fail
      refine wp_region_held_drew (S:=fun w'=>w'.cell? ⟨q4,0,none⟩=some (.int .i64 x)∧w'.cell? ⟨q4,1,none⟩=some (.int .i64 y)∧w'.cell? ⟨q4,2,none⟩=some (.int .i64 z)) (by kernel_rfl) hS0 (fun hHeld=>?_)
      refine wpAnyH_take (i:=0) (v:=?_) (by simp only [List.getElem?_toArray,List.getElem?_cons_zero];rfl) (by kernel_rfl) (by kernel_rfl) (by kernel_rfl) (by exact fun _ _ _ h=>h) (Or.inl ⟨by rfl,?_⟩) (by assumption) ?_
      rotate_left
      ·(intro w hSw;(try dsimp only at hSw);go_simp;(try with_reducible rfl))
      (try simp only [Act.put,List.setIfInBounds_toArray,List.set_cons_zero,List.set_cons_succ])
      refine wpAnyH_take (i:=2) (v:=?_) (by simp only [List.getElem?_toArray,List.getElem?_cons_succ,List.getElem?_cons_zero];rfl) (by kernel_rfl) (by kernel_rfl) (by kernel_rfl) (by exact fun _ _ _ h=>h) (Or.inl ⟨by rfl,?_⟩) (by assumption) ?_
      rotate_left
      ·(intro w hSw;(try dsimp only at hSw);go_simp;(try with_reducible rfl))
      (try simp only [Act.put,List.setIfInBounds_toArray,List.set_cons_zero,List.set_cons_succ])
      refine wpAnyH_take (i:=3) (v:=?_) (by simp only [List.getElem?_toArray,List.getElem?_cons_succ,List.getElem?_cons_zero];rfl) (by kernel_rfl) (by kernel_rfl) (by kernel_rfl) (by exact fun _ _ _ h=>h) (Or.inl ⟨by rfl,?_⟩) (by assumption) ?_
      rotate_left
      ·(intro w hSw;(try dsimp only at hSw);go_simp;(try with_reducible rfl))
      (try simp only [Act.put,List.setIfInBounds_toArray,List.set_cons_zero,List.set_cons_succ])
      refine wpAnyH_take (i:=4) (v:=?_) (by simp only [List.getElem?_toArray,List.getElem?_cons_succ,List.getElem?_cons_zero];rfl) (by kernel_rfl) (by kernel_rfl) (by kernel_rfl) (by exact fun _ _ _ h=>h) (Or.inl ⟨by rfl,?_⟩) (by assumption) ?_
      rotate_left
      ·(intro w hSw;(try dsimp only at hSw);go_simp;(try with_reducible rfl))
      (try simp only [Act.put,List.setIfInBounds_toArray,List.set_cons_zero,List.set_cons_succ])
      refine wpAnyH_take (i:=5) (v:=?_) (by simp only [List.getElem?_toArray,List.getElem?_cons_succ,List.getElem?_cons_zero];rfl) (by kernel_rfl) (by kernel_rfl) (by kernel_rfl) (by exact fun _ _ _ h=>h) (Or.inl ⟨by rfl,?_⟩) (by assumption) ?_
      rotate_left
      ·(intro w hSw;(try dsimp only at hSw);go_simp;(try with_reducible rfl))
      (try simp only [Act.put,List.setIfInBounds_toArray,List.set_cons_zero,List.set_cons_succ])
      refine wpAnyH_take (i:=6) (v:=?_) (by simp only [List.getElem?_toArray,List.getElem?_cons_succ,List.getElem?_cons_zero];rfl) (by kernel_rfl) (by kernel_rfl) (by kernel_rfl) (by exact fun _ _ _ h=>h) (Or.inl ⟨by rfl,?_⟩) (by assumption) ?_
      rotate_left
      ·(intro w hSw;(try dsimp only at hSw);go_simp;(try with_reducible rfl))
      (try simp only [Act.put,List.setIfInBounds_toArray,List.set_cons_zero,List.set_cons_succ])
      refine wpAnyH_take (i:=7) (v:=?_) (by simp only [List.getElem?_toArray,List.getElem?_cons_succ,List.getElem?_cons_zero];rfl) (by kernel_rfl) (by kernel_rfl) (by kernel_rfl) (by exact fun _ _ _ h=>h) (Or.inl ⟨by rfl,?_⟩) (by assumption) ?_
      rotate_left
      ·(intro w hSw;(try dsimp only at hSw);go_simp;(try with_reducible rfl))
      (try simp only [Act.put,List.setIfInBounds_toArray,List.set_cons_zero,List.set_cons_succ])
      refine wpAnyH_take (i:=8) (v:=?_) (by simp only [List.getElem?_toArray,List.getElem?_cons_succ,List.getElem?_cons_zero];rfl) (by kernel_rfl) (by kernel_rfl) (by kernel_rfl) (by exact fun _ _ _ h=>h) (Or.inl ⟨by rfl,?_⟩) (by assumption) ?_
      rotate_left
      ·(intro w hSw;(try dsimp only at hSw);go_simp;(try with_reducible rfl))
      (try simp only [Act.put,List.setIfInBounds_toArray,List.set_cons_zero,List.set_cons_succ])
      refine wpAnyH_take (i:=9) (v:=?_) (by simp only [List.getElem?_toArray,List.getElem?_cons_succ,List.getElem?_cons_zero];rfl) (by kernel_rfl) (by kernel_rfl) (by kernel_rfl) (by exact fun _ _ _ h=>h) (Or.inl ⟨by rfl,?_⟩) (by assumption) ?_
      rotate_left
      ·(intro w hSw;(try dsimp only at hSw);go_simp;(try with_reducible rfl))
      (try simp only [Act.put,List.setIfInBounds_toArray,List.set_cons_zero,List.set_cons_succ])
      refine wpAnyH_take (i:=10) (v:=?_) (by simp only [List.getElem?_toArray,List.getElem?_cons_succ,List.getElem?_cons_zero];rfl) (by kernel_rfl) (by kernel_rfl) (by kernel_rfl) (by exact fun _ _ _ h=>h) (Or.inl ⟨by rfl,?_⟩) (by assumption) ?_
      rotate_left
      ·(intro w hSw;(try dsimp only at hSw);go_simp;(try with_reducible rfl))
      (try simp only [Act.put,List.setIfInBounds_toArray,List.set_cons_zero,List.set_cons_succ])
      refine wpAnyH_take (i:=11) (v:=?_) (by simp only [List.getElem?_toArray,List.getElem?_cons_succ,List.getElem?_cons_zero];rfl) (by kernel_rfl) (by kernel_rfl) (by kernel_rfl) (by exact fun _ _ _ h=>h) (Or.inl ⟨by rfl,?_⟩) (by assumption) ?_
      rotate_left
      ·(intro w hSw;(try dsimp only at hSw);go_simp;(try with_reducible rfl))
      (try simp only [Act.put,List.setIfInBounds_toArray,List.set_cons_zero,List.set_cons_succ])
      refine wpAnyH_ready (rs:=[1,12]) (by kernel_rfl) (by simp) (AllReadyH.cons (by simp only [List.getElem?_toArray,List.getElem?_cons_succ,List.getElem?_cons_zero];rfl) (fun K hK=>?_) (AllReadyH.cons (by simp only [List.getElem?_toArray,List.getElem?_cons_succ,List.getElem?_cons_zero];rfl) (fun K hK=>?_) AllReadyH.nil))
      ·go_simp
       refine hK.out _ _ (by assumption) (fun hHeld=>?_)
       clear hK K
       (try simp only [Act.put,List.setIfInBounds_toArray,List.set_cons_zero,List.set_cons_succ])
       refine wpAnyH_ready (rs:=[12]) (by kernel_rfl) (by simp) (AllReadyH.cons (by simp only [List.getElem?_toArray,List.getElem?_cons_succ,List.getElem?_cons_zero];rfl) (fun K hK=>?_) AllReadyH.nil)
       go_simp
       refine hK.out _ _ (HSK.out _ HSA.out) (fun hHeld=>?_)
       clear hK K
       (try simp only [Act.put,List.setIfInBounds_toArray,List.set_cons_zero,List.set_cons_succ])
       refine wpAnyH_ready (rs:=[13]) (by kernel_rfl) (by simp) (AllReadyH.cons (by simp only [List.getElem?_toArray,List.getElem?_cons_succ,List.getElem?_cons_zero];rfl) (fun K hK=>?_) AllReadyH.nil)
       refine step_appk el_pcut rfl _ _ rfl w.heap.size X cs.length cx (cs.flatMap cutC) ((w4.alloc (.cells #[.int .i64 x,.int .i64 y,.int .i64 z] 107)).drew) w4.heap.size [.int .i64 x,.int .i64 y,.int .i64 z] rfl HLD.out.cuts rfl rfl HCN.out HON.out (by unfold maxLen;omega) (by omega) HSZ.out ?_
       intro A5 c5 w5 hown5 hb5 hk5
       have p5:=hk5.row HLD.out.row (HLD.out.cuts.far HLD.out.row (by decide))
       have y2:=frz p5 2
       obtain ⟨e0,e1,e2,e3,e4,e5,e6,e7,e8,e9⟩:=cells10 p5
       refine hK.out _ _ (HSK.out w5 ((hk5.2 _ (Nat.lt_of_lt_of_le hlt4 (new_at w4 (.cells #[.int .i64 x,.int .i64 y,.int .i64 z] 107)).1.size) HFA.out).trans HSA.out)) (fun hHeld5=>?_)
       clear hK K
       (try simp only [Act.put,List.setIfInBounds_toArray,List.set_cons_zero,List.set_cons_succ])
       refine wpAnyH_take (i:=14) (v:=?_) (by simp only [List.getElem?_toArray,List.getElem?_cons_succ,List.getElem?_cons_zero];rfl) (by kernel_rfl) (by kernel_rfl) (by kernel_rfl) (by exact fun _ _ _ h=>h) (Or.inl ⟨by rfl,?_⟩) (by assumption) ?_
       rotate_left
       ·(intro w hSw;(try dsimp only at hSw);go_simp;(try with_reducible rfl))
       (try simp only [Act.put,List.setIfInBounds_toArray,List.set_cons_zero,List.set_cons_succ])
       refine wpAnyH_ready (rs:=[15]) (by kernel_rfl) (by simp) (AllReadyH.cons (by simp only [List.getElem?_toArray,List.getElem?_cons_succ,List.getElem?_cons_zero];rfl) (fun K hK=>?_) AllReadyH.nil)
       go_simp
       refine hK.out _ _ (HSK.out _ ((Below.heap_setCell w5 ⟨nb,2,none⟩ (.slice A5 (cs.length+1) c5) _ HQN.out).trans ((hk5.2 _ (Nat.lt_of_lt_of_le hlt4 (new_at w4 (.cells #[.int .i64 x,.int .i64 y,.int .i64 z] 107)).1.size) HFA.out).trans HSA.out))) (fun hHeld6=>?_)
       clear hK K
       (try simp only [Act.put,List.setIfInBounds_toArray,List.set_cons_zero,List.set_cons_succ])
       refine wpAnyH_done (by kernel_rfl) ?_ _
       have hkb:=(KpB.refl nb w5).store 2 (.slice A5 (cs.length+1) c5)
       have hle:(cs ++ [(x,y,z)]).length=cs.length+1:=by simp
       have hxs:cs.flatMap cutC ++ [Value.int .i64 x,Value.int .i64 y,Value.int .i64 z]=(cs ++ [(x,y,z)]).flatMap cutC:=flat_snoc cutC cs (x,y,z)
       rw [hxs] at hown5
       have HL6:=Lib.hid (show LeafB (w5.setCell ⟨nb,2,none⟩ (.slice A5 (cs.length+1) c5)) w.heap.size nb w.heap.size kd A5 c5 (cs ++ [(x,y,z)]) none 0 [] from by
        refine ⟨by rw [hle];exact heap_put p5,(Below.heap_setCell w5 ⟨nb,2,none⟩ (.slice A5 (cs.length+1) c5) _ HG.out.2.2.1).trans (hk5.row HLD.out.res (HLD.out.cuts.far HLD.out.res (by decide))),by rw [hle];exact hown5.keptB hkb p5 (by decide),OwnR.nil _ _ _ _,fun c hc=>?_,fun d hd=>absurd hd (by simp)⟩
        rcases List.mem_append.1 hc with h | h
        ·exact HLD.out.cutsF c h
        ·rw [List.mem_singleton.1 h];exact HF3.out)
       have HR6:=Lib.hid (show RdAt (w5.setCell ⟨nb,2,none⟩ (.slice A5 (cs.length+1) c5)) g rs (n+(kk+1)) from (Below.heap_setCell w5 ⟨nb,2,none⟩ (.slice A5 (cs.length+1) c5) _ HG.out.2.1).trans (hk5.row (HR4.out.below (new_at w4 (.cells #[.int .i64 x,.int .i64 y,.int .i64 z] 107)).1.drew) (HLD.out.cuts.far (HR4.out.below (new_at w4 (.cells #[.int .i64 x,.int .i64 y,.int .i64 z] 107)).1.drew) (by decide))))
       have HK6:=Lib.hid (((HK4.out.below (new_at w4 (.cells #[.int .i64 x,.int .i64 y,.int .i64 z] 107)).1.drew).belowB hb5).out (b:=nb) HG.out.2.2.2 2 (.slice A5 (cs.length+1) c5))
       have HLE:=Lib.hid hle
       clear hkb hle hxs
       go_wp2_with fail
       all_goals first
        |exact ⟨⟨kk+1,rs,ls',A5,c5,cs ++ [(x,y,z)],by go_num,by omega,HR6.out,HL2.out,by omega,by omega,HMN.out,by rw [HLE.out,HCL.out],HL6.out,HK6.out⟩,by simp [intOf];omega⟩
        |(go_roundw
          case rel=>exact ⟨kk+1,rs,ls',A5,c5,cs ++ [(x,y,z)],by go_num,by omega,HR6.out,HL2.out,by omega,by omega,HMN.out,by rw [HLE.out,HCL.out],HL6.out,HK6.out⟩
          case measure=>simp [intOf];omega)
      ·go_simp
       refine hK.out _ _ (HSK.out _ HSA.out) (fun hHeld=>?_)
       clear hK K
       (try simp only [Act.put,List.setIfInBounds_toArray,List.set_cons_zero,List.set_cons_succ])
       refine wpAnyH_ready (rs:=[1]) (by kernel_rfl) (by simp) (AllReadyH.cons (by simp only [List.getElem?_toArray,List.getElem?_cons_succ,List.getElem?_cons_zero];rfl) (fun K hK=>?_) AllReadyH.nil)
       go_simp
       refine hK.out _ _ (HSK.out _ HSA.out) (fun hHeld=>?_)
       clear hK K
       (try simp only [Act.put,List.setIfInBounds_toArray,List.set_cons_zero,List.set_cons_succ])
       refine wpAnyH_ready (rs:=[13]) (by kernel_rfl) (by simp) (AllReadyH.cons (by simp only [List.getElem?_toArray,List.getElem?_cons_succ,List.getElem?_cons_zero];rfl) (fun K hK=>?_) AllReadyH.nil)
       refine step_appk el_pcut rfl _ _ rfl w.heap.size X cs.length cx (cs.flatMap cutC) ((w4.alloc (.cells #[.int .i64 x,.int .i64 y,.int .i64 z] 107)).drew) w4.heap.size [.int .i64 x,.int .i64 y,.int .i64 z] rfl HLD.out.cuts rfl rfl HCN.out HON.out (by unfold maxLen;omega) (by omega) HSZ.out ?_
       intro A5 c5 w5 hown5 hb5 hk5
       have p5:=hk5.row HLD.out.row (HLD.out.cuts.far HLD.out.row (by decide))
       have y2:=frz p5 2
       obtain ⟨e0,e1,e2,e3,e4,e5,e6,e7,e8,e9⟩:=cells10 p5
       refine hK.out _ _ (HSK.out w5 ((hk5.2 _ (Nat.lt_of_lt_of_le hlt4 (new_at w4 (.cells #[.int .i64 x,.int .i64 y,.int .i64 z] 107)).1.size) HFA.out).trans HSA.out)) (fun hHeld5=>?_)
       clear hK K
       (try simp only [Act.put,List.setIfInBounds_toArray,List.set_cons_zero,List.set_cons_succ])
       refine wpAnyH_take (i:=14) (v:=?_) (by simp only [List.getElem?_toArray,List.getElem?_cons_succ,List.getElem?_cons_zero];rfl) (by kernel_rfl) (by kernel_rfl) (by kernel_rfl) (by exact fun _ _ _ h=>h) (Or.inl ⟨by rfl,?_⟩) (by assumption) ?_
       rotate_left
       ·(intro w hSw;(try dsimp only at hSw);go_simp;(try with_reducible rfl))
       (try simp only [Act.put,List.setIfInBounds_toArray,List.set_cons_zero,List.set_cons_succ])
       refine wpAnyH_ready (rs:=[15]) (by kernel_rfl) (by simp) (AllReadyH.cons (by simp only [List.getElem?_toArray,List.getElem?_cons_succ,List.getElem?_cons_zero];rfl) (fun K hK=>?_) AllReadyH.nil)
       go_simp
       refine hK.out _ _ (HSK.out _ ((Below.heap_setCell w5 ⟨nb,2,none⟩ (.slice A5 (cs.length+1) c5) _ HQN.out).trans ((hk5.2 _ (Nat.lt_of_lt_of_le hlt4 (new_at w4 (.cells #[.int .i64 x,.int .i64 y,.int .i64 z] 107)).1.size) HFA.out).trans HSA.out))) (fun hHeld6=>?_)
       clear hK K
       (try simp only [Act.put,List.setIfInBounds_toArray,List.set_cons_zero,List.set_cons_succ])
       refine wpAnyH_done (by kernel_rfl) ?_ _
       have hkb:=(KpB.refl nb w5).store 2 (.slice A5 (cs.length+1) c5)
       have hle:(cs ++ [(x,y,z)]).length=cs.length+1:=by simp
       have hxs:cs.flatMap cutC ++ [Value.int .i64 x,Value.int .i64 y,Value.int .i64 z]=(cs ++ [(x,y,z)]).flatMap cutC:=flat_snoc cutC cs (x,y,z)
       rw [hxs] at hown5
       have HL6:=Lib.hid (show LeafB (w5.setCell ⟨nb,2,none⟩ (.slice A5 (cs.length+1) c5)) w.heap.size nb w.heap.size kd A5 c5 (cs ++ [(x,y,z)]) none 0 [] from by
        refine ⟨by rw [hle];exact heap_put p5,(Below.heap_setCell w5 ⟨nb,2,none⟩ (.slice A5 (cs.length+1) c5) _ HG.out.2.2.1).trans (hk5.row HLD.out.res (HLD.out.cuts.far HLD.out.res (by decide))),by rw [hle];exact hown5.keptB hkb p5 (by decide),OwnR.nil _ _ _ _,fun c hc=>?_,fun d hd=>absurd hd (by simp)⟩
        rcases List.mem_append.1 hc with h | h
        ·exact HLD.out.cutsF c h
        ·rw [List.mem_singleton.1 h];exact HF3.out)
       have HR6:=Lib.hid (show RdAt (w5.setCell ⟨nb,2,none⟩ (.slice A5 (cs.length+1) c5)) g rs (n+(kk+1)) from (Below.heap_setCell w5 ⟨nb,2,none⟩ (.slice A5 (cs.length+1) c5) _ HG.out.2.1).trans (hk5.row (HR4.out.below (new_at w4 (.cells #[.int .i64 x,.int .i64 y,.int .i64 z] 107)).1.drew) (HLD.out.cuts.far (HR4.out.below (new_at w4 (.cells #[.int .i64 x,.int .i64 y,.int .i64 z] 107)).1.drew) (by decide))))
       have HK6:=Lib.hid (((HK4.out.below (new_at w4 (.cells #[.int .i64 x,.int .i64 y,.int .i64 z] 107)).1.drew).belowB hb5).out (b:=nb) HG.out.2.2.2 2 (.slice A5 (cs.length+1) c5))
       have HLE:=Lib.hid hle
       clear hkb hle hxs
       go_wp2_with fail
       all_goals first
        |exact ⟨⟨kk+1,rs,ls',A5,c5,cs ++ [(x,y,z)],by go_num,by omega,HR6.out,HL2.out,by omega,by omega,HMN.out,by rw [HLE.out,HCL.out],HL6.out,HK6.out⟩,by simp [intOf];omega⟩
        |(go_roundw
          case rel=>exact ⟨kk+1,rs,ls',A5,c5,cs ++ [(x,y,z)],by go_num,by omega,HR6.out,HL2.out,by omega,by omega,HMN.out,by rw [HLE.out,HCL.out],HL6.out,HK6.out⟩
          case measure=>simp [intOf];omega)
     ·have HG2:=Lib.hid (HG0.out (HCT.out.2 (by cases okb <;> cases b1 <;> simp_all)))
      clear HCT HG0 HG1 hown4
      have hcs:okb=false∨(okb=true∧b1=false):=by cases okb <;> cases b1 <;> simp_all
      clear hgood
      rcases hcs with rfl | ⟨rfl,rfl⟩
      all_goals
       obtain ⟨a0,a1,a2,a3,a4,a5,a6,a7,a8,a9⟩:=cells10 HL4.out.row
       obtain ⟨r0,r1,r2,r3,r4,r5,r6,r7,r8,r9⟩:=cells10 HL4.out.res
       have z:=frz HL4.out.res
       have z0:=z 0
       have z1:=z 1
       have z2:=z 2
       have z3:=z 3
       have z4:=z 4
       have z5:=z 5
       have z6:=z 6
       have z7:=z 7
       have z8:=z 8
       have z9:=z 9
       clear z
       go_wp2_with fail
       (try simp only [Exit.inBlock,Exit.then])
       refine bodyPost_ret (res_row rfl (ld_node (pset10 HL4.out.res)) rfl rfl) rfl ?_
       obtain rfl:=HG2.out
       exact .fin (m:=⟨X,cx,none,0,⟨true,kd,cs,[],0,0,0,0,0,0⟩⟩) (b:=false) rfl (fun h=>by cases h) HR4.out HL2.out (by omega) HK4.out HL4.out.res (Nat.le_refl _) HG.out.1
   ·have hlt1:¬ (kk:Int)<(ka:Int):=by omega
    have hke:kk=ka:=by omega
    subst hke
    have hR2:R=(match manyA dualR [] kb ls' (n+kk) with
     |(none,ls2,n2)=>(none,ls2,n2)
     |(some ds,ls2,n2)=>(some ⟨true,kd,cs,ds,0,0,0,0,0,0⟩,ls2,n2)):=by
     rw [HR.out,HMANY.out,show kk - kk=0 by omega];rfl
    have HR:=Lib.hid hR2
    have HCB:=Lib.hid (show cs.length≤70000 by rw [HCL.out];omega)
    obtain ⟨x0,x1,x2⟩:=HC.out wr HKP.out
    have hn1:n+kk≤140000:=by omega
    have hl1:ls'.length≤70000:=by omega
    clear hR2 HMANY HCL hkk hll2 hlt
    generalize n+kk=n1 at *
    go_upto_region 13 with fail
    clear x0 x1 x2 hlt1
    have HRD0:=Lib.hid HRD.out
    have HLS0:=Lib.hid HLS2.out
    have HLB0:=Lib.hid HLB.out
    have HKP0:=Lib.hid HKP.out
    clear HRD HLS2 HLB HKP
    generalize ls'=ls1 at *
    generalize hs1:s'=s1 at *
    clear hs1
    go_loopw [11,12,69] (fun _ _ i wr=>∃ (jj:Nat) (s':Str) (ls':List Str) (Y:Option Addr) (cy:Nat) (ds:List Str),i=.int .i64 jj∧jj≤kb∧RdAt wr g s' (n1+jj)∧LinesOf s' ls' t∧s'.length≤s.length∧jj+ls'.length=ls1.length∧manyA dualR [] kb ls1 n1=manyA dualR ds (kb - jj) ls' (n1+jj)∧ds.length=jj∧LeafB wr w.heap.size nb w.heap.size kd X cx cs Y cy ds∧KpB g w wr) (fun _ _ i _=>kb - (intOf i).toNat)
    case atStart=>exact ⟨0,s1,ls1,none,0,[],rfl,by omega,HRD0.out,HLS0.out,hsl,by omega,rfl,rfl,HLB0.out,HKP0.out⟩
    case round =>
     clear HRD0 HLS0 HLB0 HKP0
     obtain ⟨jj,s',ls',Y,cy,ds,rfl,hjj,hrd,hls,hsl',hll3,hmany,hdl,hlb,hkp⟩:=hrel
     have HRD:=Lib.hid hrd
     have HLS2:=Lib.hid hls
     have HMANY:=Lib.hid hmany
     have HDL:=Lib.hid hdl
     have HLB:=Lib.hid hlb
     have HKP:=Lib.hid hkp
     clear hrd hls hmany hdl hlb hkp hsl
     by_cases hlt:jj<kb
     ·have hlt1:(jj:Int)<(kb:Int):=by omega
      have hsub:kb - jj=(kb - jj - 1)+1:=by omega
      cases ls' with
      |nil =>
       have HG2:=Lib.hid (show R=(none,[],n1+jj+1) by rw [HR.out,HMANY.out,hsub];rfl)
       have HNX:=Lib.hid (next_nil g s' t (n1+jj) wr HRD.out HLS2.out (by omega) (by omega) (HE.out wr HKP.out))
       go_wp2_with fail
       refine HNX.out.mono ?_
       rintro e w4 ⟨rfl,hk4,hr4⟩
       have HK4:=Lib.hid (HKP.out.trans hk4)
       have HL4:=Lib.hid (HLB.out.kpB hk4 HRD.out HG.out.2.1.symm HG.out.1.symm)
       have HR4:=Lib.hid hr4
       clear hk4 hr4 HNX HKP HLB HRD
       obtain ⟨a0,a1,a2,a3,a4,a5,a6,a7,a8,a9⟩:=cells10 HL4.out.row
       obtain ⟨r0,r1,r2,r3,r4,r5,r6,r7,r8,r9⟩:=cells10 HL4.out.res
       have z:=frz HL4.out.res
       have z0:=z 0
       have z1:=z 1
       have z2:=z 2
       have z3:=z 3
       have z4:=z 4
       have z5:=z 5
       have z6:=z 6
       have z7:=z 7
       have z8:=z 8
       have z9:=z 9
       clear z
       go_wp2_with fail
       (try simp only [Exit.inBlock,Exit.then])
       refine bodyPost_ret (res_row rfl (ld_node (pset10 HL4.out.res)) rfl rfl) rfl ?_
       obtain rfl:=HG2.out
       exact .fin (m:=⟨X,cx,Y,cy,⟨true,kd,cs,ds,0,0,0,0,0,0⟩⟩) (b:=false) rfl (fun h=>by cases h) HR4.out HLS2.out hsl' HK4.out HL4.out.res (Nat.le_refl _) HG.out.1
      |cons l ls' =>
       obtain ⟨hse,_,hl2⟩:=HLS2.out.cons
       have hsl2:s'.length=l.length+1+(unl ls' ++ t).length:=by
        have:=congrArg List.length hse
        rw [List.length_append,List.length_cons] at this
        omega
       rw [List.length_cons] at hll3
       have HNX:=Lib.hid (next_cons g s' l t ls' (n1+jj) wr HRD.out HLS2.out (by omega) (by omega) (HE.out wr HKP.out))
       have HWL:=Lib.hid (wordsL_le l)
       have HL2:=Lib.hid hl2
       have HG0:=Lib.hid (show dualR l=none→R=(none,ls',n1+jj+1) from fun h=>by
        rw [HR.out,HMANY.out,hsub,manyA_no h])
       have HG1:=Lib.hid (show ∀ c,dualR l=some c→manyA dualR [] kb ls1 n1=manyA dualR (ds ++ [c]) (kb - (jj+1)) ls' (n1+(jj+1)) from fun c h=>by
        rw [HMANY.out,hsub,manyA_yes h,show kb - jj - 1=kb - (jj+1) by omega];rfl)
       clear hse hl2 hsub
       generalize hok:(wordsE l == 0 && decide (0<(wordsL l).length))=okb at *
       have HDU:=Lib.hid (dual_ok (l:=l) (okb:=okb) hok.symm)
       clear hok
       generalize unl ls' ++ t=rs at *
       generalize wordsL l=wl at *
       go_wp2_with fail
       refine HNX.out.mono ?_
       rintro e w3 ⟨WA,wc,rfl,hown,hk3,hr3⟩
       have HK3:=Lib.hid (HKP.out.trans hk3)
       have HL3:=Lib.hid (HLB.out.kpB hk3 HRD.out HG.out.2.1.symm HG.out.1.symm)
       have HR3:=Lib.hid hr3
       have HNB:=Lib.hid (lt_heap HLB.out.row)
       have HOW:=Lib.hid hown
       clear hk3 hr3 HNX HKP HLB HRD hown
       by_cases hbad:okb=false∨wl.length≠2
       ·have HG2:=Lib.hid (HG0.out (by rcases hbad with h | h;exact HDU.out.1 h;exact HDU.out.2.1 h))
        have hcs:okb=false∨(okb=true∧wl.length≠2):=by
         rcases hbad with h | h
         ·exact .inl h
         ·cases okb
          ·exact .inl rfl
          ·exact .inr ⟨rfl,h⟩
        clear hbad HDU HG0 HG1
        have hcs2:okb=false∨(okb=true∧((wl.length:Int) != 2)=true):=by
         rcases hcs with h | ⟨h,h2⟩
         ·exact .inl h
         ·exact .inr ⟨h,by simp;omega⟩
        clear hcs
        rcases hcs2 with rfl | ⟨rfl,e2⟩
        all_goals
         obtain ⟨a0,a1,a2,a3,a4,a5,a6,a7,a8,a9⟩:=cells10 HL3.out.row
         obtain ⟨r0,r1,r2,r3,r4,r5,r6,r7,r8,r9⟩:=cells10 HL3.out.res
         have z:=frz HL3.out.res
         have z0:=z 0
         have z1:=z 1
         have z2:=z 2
         have z3:=z 3
         have z4:=z 4
         have z5:=z 5
         have z6:=z 6
         have z7:=z 7
         have z8:=z 8
         have z9:=z 9
         clear z
         go_wp2_with fail
         (try simp only [Exit.inBlock,Exit.then])
         refine bodyPost_ret (res_row rfl (ld_node (pset10 HL3.out.res)) rfl rfl) rfl ?_
         obtain rfl:=HG2.out
         exact .fin (m:=⟨X,cx,Y,cy,⟨true,kd,cs,ds,0,0,0,0,0,0⟩⟩) (b:=false) rfl (fun h=>by cases h) HR3.out HL2.out (by omega) HK3.out HL3.out.res (Nat.le_refl _) HG.out.1
       ·have hok1:okb=true:=by cases okb;exact absurd (.inl rfl) hbad;rfl
        have hl2':∃ x y,wl=[x,y]:=by
         match wl,hbad with
         |[x,y],_=>exact ⟨x,y,rfl⟩
         |[],hb=>exact absurd (.inr (by simp)) hb
         |[_],hb=>exact absurd (.inr (by simp)) hb
         |_ :: _ :: _ :: _,hb=>exact absurd (.inr (by simp)) hb
        obtain ⟨x,y,rfl⟩:=hl2'
        subst hok1
        have HD2:=Lib.hid (HDU.out.2.2 x y rfl)
        obtain ⟨q4,rfl,hq4,hlt4,hcap4,x0,x1⟩:=own2s HOW.out
        have HYL:=Lib.hid (HWL.out.2 y (by simp))
        clear hbad HDU
        by_cases hxd:x=dualW
        ·have e2:(x == [100,117,97,108])=true:=by simpa using hxd
         have HRQ:=Lib.hid (rq_any y w3 (by have:=HYL.out;omega) (HE.out w3 HK3.out).1)
         have HX:=Lib.hid hxd
         clear hxd
         cases hrq:rightQ y with
         |true =>
          have HMN:=Lib.hid (HG1.out y (HD2.out.2.2 rfl HX.out hrq))
          rw [hrq] at HRQ
          clear hrq HD2 HG0 HG1 HX
          go_wp2_with fail
          refine HRQ.out.mono ?_
          rintro e w4 ⟨rfl,hb4⟩
          have HK4:=Lib.hid (HK3.out.below hb4)
          have HL4:=Lib.hid (HL3.out.below hb4)
          have HR4:=Lib.hid (HR3.out.below hb4)
          have HOW4:=Lib.hid (HOW.out.below hb4)
          have y1:=(hb4.cell (p:=⟨q4,1,none⟩) hlt4).trans x1
          have hlt4:=Nat.lt_of_lt_of_le hlt4 hb4.size
          clear hb4 HK3 HL3 HR3 HOW HRQ x0 x1
          obtain ⟨_,_,curq,hcur⟩:=OwnR.typ (show OwnR w4 wr.heap.size 9 1 (some ⟨q4,0,none⟩) 2 wc (strs [x,y]) from HOW4.out)
          have HFA:=Lib.hid (HL4.out.dual.far hcur (by decide))
          have HQN:=Lib.hid (show q4≠nb by have:=HNB.out;omega)
          clear hcur hq4
          obtain ⟨a0,a1,a2,a3,a4,a5,a6,a7,a8,a9⟩:=cells10 HL4.out.row
          have hdb:ds.length≤70000:=by rw [HDL.out];omega
          have HLD:=Lib.hid (HL4.out.below (new_at w4 (.cells #[.string (B y)] 46)).1.drew)
          have HCN:=Lib.hid (show ∀ j u,[Value.string (B y)][j]? = some u→((w4.alloc (.cells #[.string (B y)] 46)).drew).cell? ⟨w4.heap.size,j,none⟩=some u from cells_newP)
          have HSZ:=Lib.hid (show w.heap.size≤((w4.alloc (.cells #[.string (B y)] 46)).drew).heap.size from Nat.le_trans HK4.out.1 (new_at w4 (.cells #[.string (B y)] 46)).1.size)
          have HON:=Lib.hid (show ∀ u ∈ [Value.string (B y)],u.oneCell'=true from by intro u hu;simp at hu;rw [hu];rfl)
          have HSK:=Lib.hid (show ∀ w',w'.heap[q4]? = w4.heap[q4]? → w'.cell? ⟨q4,1,none⟩=some (.string (B y)) from fun w' hb=>(World.cell?_of_block (w:=w4) (w':=w') (a:=⟨q4,1,none⟩) hb).trans y1)
          have HSA:=Lib.hid (show ((w4.alloc (.cells #[.string (B y)] 46)).drew).heap[q4]? = w4.heap[q4]? from (new_at w4 (.cells #[.string (B y)] 46)).1.block _ hlt4)
          have hS0:=HSK.out w4.drew rfl
          obtain ⟨_,_,_,g3,_⟩:=cells10 HLD.out.row
          go_upto_region 17 with fail
          refine wp_region_held_drew (S:=fun w'=>w'.cell? ⟨q4,1,none⟩=some (.string (B y))) (by kernel_rfl) hS0 (fun hHeld=>?_)
          refine wpAnyH_take (i:=0) (v:=?_) (by simp only [List.getElem?_toArray,List.getElem?_cons_zero];rfl) (by kernel_rfl) (by kernel_rfl) (by kernel_rfl) (by exact fun _ _ _ h=>h) (Or.inl ⟨by rfl,?_⟩) (by assumption) ?_
          rotate_left
          ·(intro w hSw;(try dsimp only at hSw);go_simp;(try with_reducible rfl))
          (try simp only [Act.put,List.setIfInBounds_toArray,List.set_cons_zero,List.set_cons_succ])
          refine wpAnyH_take (i:=2) (v:=?_) (by simp only [List.getElem?_toArray,List.getElem?_cons_succ,List.getElem?_cons_zero];rfl) (by kernel_rfl) (by kernel_rfl) (by kernel_rfl) (by exact fun _ _ _ h=>h) (Or.inl ⟨by rfl,?_⟩) (by assumption) ?_
          rotate_left
          ·(intro w hSw;(try dsimp only at hSw);go_simp;(try with_reducible rfl))
          (try simp only [Act.put,List.setIfInBounds_toArray,List.set_cons_zero,List.set_cons_succ])
          refine wpAnyH_take (i:=3) (v:=?_) (by simp only [List.getElem?_toArray,List.getElem?_cons_succ,List.getElem?_cons_zero];rfl) (by kernel_rfl) (by kernel_rfl) (by kernel_rfl) (by exact fun _ _ _ h=>h) (Or.inl ⟨by rfl,?_⟩) (by assumption) ?_
          rotate_left
          ·(intro w hSw;(try dsimp only at hSw);go_simp;(try with_reducible rfl))
          (try simp only [Act.put,List.setIfInBounds_toArray,List.set_cons_zero,List.set_cons_succ])
          refine wpAnyH_take (i:=4) (v:=?_) (by simp only [List.getElem?_toArray,List.getElem?_cons_succ,List.getElem?_cons_zero];rfl) (by kernel_rfl) (by kernel_rfl) (by kernel_rfl) (by exact fun _ _ _ h=>h) (Or.inl ⟨by rfl,?_⟩) (by assumption) ?_
          rotate_left
          ·(intro w hSw;(try dsimp only at hSw);go_simp;(try with_reducible rfl))
          (try simp only [Act.put,List.setIfInBounds_toArray,List.set_cons_zero,List.set_cons_succ])
          refine wpAnyH_ready (rs:=[1,5]) (by kernel_rfl) (by simp) (AllReadyH.cons (by simp only [List.getElem?_toArray,List.getElem?_cons_succ,List.getElem?_cons_zero];rfl) (fun K hK=>?_) (AllReadyH.cons (by simp only [List.getElem?_toArray,List.getElem?_cons_succ,List.getElem?_cons_zero];rfl) (fun K hK=>?_) AllReadyH.nil))
          ·go_simp
           refine hK.out _ _ (by assumption) (fun hHeld=>?_)
           clear hK K
           (try simp only [Act.put,List.setIfInBounds_toArray,List.set_cons_zero,List.set_cons_succ])
           refine wpAnyH_ready (rs:=[5]) (by kernel_rfl) (by simp) (AllReadyH.cons (by simp only [List.getElem?_toArray,List.getElem?_cons_succ,List.getElem?_cons_zero];rfl) (fun K hK=>?_) AllReadyH.nil)
           go_simp
           refine hK.out _ _ (HSK.out _ HSA.out) (fun hHeld=>?_)
           clear hK K
           (try simp only [Act.put,List.setIfInBounds_toArray,List.set_cons_zero,List.set_cons_succ])
           refine wpAnyH_ready (rs:=[6]) (by kernel_rfl) (by simp) (AllReadyH.cons (by simp only [List.getElem?_toArray,List.getElem?_cons_succ,List.getElem?_cons_zero];rfl) (fun K hK=>?_) AllReadyH.nil)
           refine step_appk el_prat rfl _ _ rfl w.heap.size Y ds.length cy (strs ds) ((w4.alloc (.cells #[.string (B y)] 46)).drew) w4.heap.size [.string (B y)] rfl HLD.out.dual rfl rfl HCN.out HON.out (by unfold maxLen;omega) (by omega) HSZ.out ?_
           intro A5 c5 w5 hown5 hb5 hk5
           have p5:=hk5.row HLD.out.row (HLD.out.dual.far HLD.out.row (by decide))
           have y3:=frz p5 3
           obtain ⟨e0,e1,e2,e3,e4,e5,e6,e7,e8,e9⟩:=cells10 p5
           refine hK.out _ _ (HSK.out w5 ((hk5.2 _ (Nat.lt_of_lt_of_le hlt4 (new_at w4 (.cells #[.string (B y)] 46)).1.size) HFA.out).trans HSA.out)) (fun hHeld5=>?_)
           clear hK K
           (try simp only [Act.put,List.setIfInBounds_toArray,List.set_cons_zero,List.set_cons_succ])
           refine wpAnyH_take (i:=7) (v:=?_) (by simp only [List.getElem?_toArray,List.getElem?_cons_succ,List.getElem?_cons_zero];rfl) (by kernel_rfl) (by kernel_rfl) (by kernel_rfl) (by exact fun _ _ _ h=>h) (Or.inl ⟨by rfl,?_⟩) (by assumption) ?_
           rotate_left
           ·(intro w hSw;(try dsimp only at hSw);go_simp;(try with_reducible rfl))
           (try simp only [Act.put,List.setIfInBounds_toArray,List.set_cons_zero,List.set_cons_succ])
           refine wpAnyH_ready (rs:=[8]) (by kernel_rfl) (by simp) (AllReadyH.cons (by simp only [List.getElem?_toArray,List.getElem?_cons_succ,List.getElem?_cons_zero];rfl) (fun K hK=>?_) AllReadyH.nil)
           go_simp
           refine hK.out _ _ (HSK.out _ ((Below.heap_setCell w5 ⟨nb,3,none⟩ (.slice A5 (ds.length+1) c5) _ HQN.out).trans ((hk5.2 _ (Nat.lt_of_lt_of_le hlt4 (new_at w4 (.cells #[.string (B y)] 46)).1.size) HFA.out).trans HSA.out))) (fun hHeld6=>?_)
           clear hK K
           (try simp only [Act.put,List.setIfInBounds_toArray,List.set_cons_zero,List.set_cons_succ])
           refine wpAnyH_done (by kernel_rfl) ?_ _
           have hkb:=(KpB.refl nb w5).store 3 (.slice A5 (ds.length+1) c5)
           have hle:(ds ++ [y]).length=ds.length+1:=by simp
           rw [snoc_strs] at hown5
           have HL6:=Lib.hid (show LeafB (w5.setCell ⟨nb,3,none⟩ (.slice A5 (ds.length+1) c5)) w.heap.size nb w.heap.size kd X cx cs A5 c5 (ds ++ [y]) from by
            refine ⟨by rw [hle];exact heap_put p5,(Below.heap_setCell w5 ⟨nb,3,none⟩ (.slice A5 (ds.length+1) c5) _ HG.out.2.2.1).trans (hk5.row HLD.out.res (HLD.out.dual.far HLD.out.res (by decide))),(HLD.out.cuts.keptA hk5 HLD.out.dual (by decide)).keptB hkb p5 (by decide),by rw [hle];exact hown5.keptB hkb p5 (by decide),HLD.out.cutsF,fun d hd=>?_⟩
            rcases List.mem_append.1 hd with h | h
            ·exact HLD.out.dualF d h
            ·rw [List.mem_singleton.1 h];have:=HYL.out;unfold maxLen;omega)
           have HR6:=Lib.hid (show RdAt (w5.setCell ⟨nb,3,none⟩ (.slice A5 (ds.length+1) c5)) g rs (n1+(jj+1)) from (Below.heap_setCell w5 ⟨nb,3,none⟩ (.slice A5 (ds.length+1) c5) _ HG.out.2.1).trans (hk5.row (HR4.out.below (new_at w4 (.cells #[.string (B y)] 46)).1.drew) (HLD.out.dual.far (HR4.out.below (new_at w4 (.cells #[.string (B y)] 46)).1.drew) (by decide))))
           have HK6:=Lib.hid (((HK4.out.below (new_at w4 (.cells #[.string (B y)] 46)).1.drew).belowB hb5).out (b:=nb) HG.out.2.2.2 3 (.slice A5 (ds.length+1) c5))
           have HLE:=Lib.hid hle
           clear hkb hle
           go_wp2_with fail
           all_goals first
            |exact ⟨⟨jj+1,rs,ls',A5,c5,ds ++ [y],by go_num,by omega,HR6.out,HL2.out,by omega,by omega,HMN.out,by rw [HLE.out,HDL.out],HL6.out,HK6.out⟩,by simp [intOf];omega⟩
            |(go_roundw
              case rel=>exact ⟨jj+1,rs,ls',A5,c5,ds ++ [y],by go_num,by omega,HR6.out,HL2.out,by omega,by omega,HMN.out,by rw [HLE.out,HDL.out],HL6.out,HK6.out⟩
              case measure=>simp [intOf];omega)
          ·go_simp
           refine hK.out _ _ (HSK.out _ HSA.out) (fun hHeld=>?_)
           clear hK K
           (try simp only [Act.put,List.setIfInBounds_toArray,List.set_cons_zero,List.set_cons_succ])
           refine wpAnyH_ready (rs:=[1]) (by kernel_rfl) (by simp) (AllReadyH.cons (by simp only [List.getElem?_toArray,List.getElem?_cons_succ,List.getElem?_cons_zero];rfl) (fun K hK=>?_) AllReadyH.nil)
           go_simp
           refine hK.out _ _ (HSK.out _ HSA.out) (fun hHeld=>?_)
           clear hK K
           (try simp only [Act.put,List.setIfInBounds_toArray,List.set_cons_zero,List.set_cons_succ])
           refine wpAnyH_ready (rs:=[6]) (by kernel_rfl) (by simp) (AllReadyH.cons (by simp only [List.getElem?_toArray,List.getElem?_cons_succ,List.getElem?_cons_zero];rfl) (fun K hK=>?_) AllReadyH.nil)
           refine step_appk el_prat rfl _ _ rfl w.heap.size Y ds.length cy (strs ds) ((w4.alloc (.cells #[.string (B y)] 46)).drew) w4.heap.size [.string (B y)] rfl HLD.out.dual rfl rfl HCN.out HON.out (by unfold maxLen;omega) (by omega) HSZ.out ?_
           intro A5 c5 w5 hown5 hb5 hk5
           have p5:=hk5.row HLD.out.row (HLD.out.dual.far HLD.out.row (by decide))
           have y3:=frz p5 3
           obtain ⟨e0,e1,e2,e3,e4,e5,e6,e7,e8,e9⟩:=cells10 p5
           refine hK.out _ _ (HSK.out w5 ((hk5.2 _ (Nat.lt_of_lt_of_le hlt4 (new_at w4 (.cells #[.string (B y)] 46)).1.size) HFA.out).trans HSA.out)) (fun hHeld5=>?_)
           clear hK K
           (try simp only [Act.put,List.setIfInBounds_toArray,List.set_cons_zero,List.set_cons_succ])
           refine wpAnyH_take (i:=7) (v:=?_) (by simp only [List.getElem?_toArray,List.getElem?_cons_succ,List.getElem?_cons_zero];rfl) (by kernel_rfl) (by kernel_rfl) (by kernel_rfl) (by exact fun _ _ _ h=>h) (Or.inl ⟨by rfl,?_⟩) (by assumption) ?_
           rotate_left
           ·(intro w hSw;(try dsimp only at hSw);go_simp;(try with_reducible rfl))
           (try simp only [Act.put,List.setIfInBounds_toArray,List.set_cons_zero,List.set_cons_succ])
           refine wpAnyH_ready (rs:=[8]) (by kernel_rfl) (by simp) (AllReadyH.cons (by simp only [List.getElem?_toArray,List.getElem?_cons_succ,List.getElem?_cons_zero];rfl) (fun K hK=>?_) AllReadyH.nil)
           go_simp
           refine hK.out _ _ (HSK.out _ ((Below.heap_setCell w5 ⟨nb,3,none⟩ (.slice A5 (ds.length+1) c5) _ HQN.out).trans ((hk5.2 _ (Nat.lt_of_lt_of_le hlt4 (new_at w4 (.cells #[.string (B y)] 46)).1.size) HFA.out).trans HSA.out))) (fun hHeld6=>?_)
           clear hK K
           (try simp only [Act.put,List.setIfInBounds_toArray,List.set_cons_zero,List.set_cons_succ])
           refine wpAnyH_done (by kernel_rfl) ?_ _
           have hkb:=(KpB.refl nb w5).store 3 (.slice A5 (ds.length+1) c5)
           have hle:(ds ++ [y]).length=ds.length+1:=by simp
           rw [snoc_strs] at hown5
           have HL6:=Lib.hid (show LeafB (w5.setCell ⟨nb,3,none⟩ (.slice A5 (ds.length+1) c5)) w.heap.size nb w.heap.size kd X cx cs A5 c5 (ds ++ [y]) from by
            refine ⟨by rw [hle];exact heap_put p5,(Below.heap_setCell w5 ⟨nb,3,none⟩ (.slice A5 (ds.length+1) c5) _ HG.out.2.2.1).trans (hk5.row HLD.out.res (HLD.out.dual.far HLD.out.res (by decide))),(HLD.out.cuts.keptA hk5 HLD.out.dual (by decide)).keptB hkb p5 (by decide),by rw [hle];exact hown5.keptB hkb p5 (by decide),HLD.out.cutsF,fun d hd=>?_⟩
            rcases List.mem_append.1 hd with h | h
            ·exact HLD.out.dualF d h
            ·rw [List.mem_singleton.1 h];have:=HYL.out;unfold maxLen;omega)
           have HR6:=Lib.hid (show RdAt (w5.setCell ⟨nb,3,none⟩ (.slice A5 (ds.length+1) c5)) g rs (n1+(jj+1)) from (Below.heap_setCell w5 ⟨nb,3,none⟩ (.slice A5 (ds.length+1) c5) _ HG.out.2.1).trans (hk5.row (HR4.out.below (new_at w4 (.cells #[.string (B y)] 46)).1.drew) (HLD.out.dual.far (HR4.out.below (new_at w4 (.cells #[.string (B y)] 46)).1.drew) (by decide))))
           have HK6:=Lib.hid (((HK4.out.below (new_at w4 (.cells #[.string (B y)] 46)).1.drew).belowB hb5).out (b:=nb) HG.out.2.2.2 3 (.slice A5 (ds.length+1) c5))
           have HLE:=Lib.hid hle
           clear hkb hle
           go_wp2_with fail
           all_goals first
            |exact ⟨⟨jj+1,rs,ls',A5,c5,ds ++ [y],by go_num,by omega,HR6.out,HL2.out,by omega,by omega,HMN.out,by rw [HLE.out,HDL.out],HL6.out,HK6.out⟩,by simp [intOf];omega⟩
            |(go_roundw
              case rel=>exact ⟨jj+1,rs,ls',A5,c5,ds ++ [y],by go_num,by omega,HR6.out,HL2.out,by omega,by omega,HMN.out,by rw [HLE.out,HDL.out],HL6.out,HK6.out⟩
              case measure=>simp [intOf];omega)
         |false =>
          have HG2:=Lib.hid (HG0.out (HD2.out.2.1 hrq))
          rw [hrq] at HRQ
          clear hrq HD2 HG0 HG1 HX
          go_wp2_with fail
          refine HRQ.out.mono ?_
          rintro e w4 ⟨rfl,hb4⟩
          have HK4:=Lib.hid (HK3.out.below hb4)
          have HL4:=Lib.hid (HL3.out.below hb4)
          have HR4:=Lib.hid (HR3.out.below hb4)
          clear hb4 HK3 HL3 HR3 HOW HRQ
          obtain ⟨a0,a1,a2,a3,a4,a5,a6,a7,a8,a9⟩:=cells10 HL4.out.row
          obtain ⟨r0,r1,r2,r3,r4,r5,r6,r7,r8,r9⟩:=cells10 HL4.out.res
          have z:=frz HL4.out.res
          have z0:=z 0
          have z1:=z 1
          have z2:=z 2
          have z3:=z 3
          have z4:=z 4
          have z5:=z 5
          have z6:=z 6
          have z7:=z 7
          have z8:=z 8
          have z9:=z 9
          clear z
          go_wp2_with fail
          (try simp only [Exit.inBlock,Exit.then])
          refine bodyPost_ret (res_row rfl (ld_node (pset10 HL4.out.res)) rfl rfl) rfl ?_
          obtain rfl:=HG2.out
          exact .fin (m:=⟨X,cx,Y,cy,⟨true,kd,cs,ds,0,0,0,0,0,0⟩⟩) (b:=false) rfl (fun h=>by cases h) HR4.out HL2.out (by omega) HK4.out HL4.out.res (Nat.le_refl _) HG.out.1
        ·have e2:(x == [100,117,97,108])=false:=by simpa using hxd
         have HG2:=Lib.hid (HG0.out (HD2.out.1 hxd))
         clear hxd HD2 HG0 HG1
         obtain ⟨a0,a1,a2,a3,a4,a5,a6,a7,a8,a9⟩:=cells10 HL3.out.row
         obtain ⟨r0,r1,r2,r3,r4,r5,r6,r7,r8,r9⟩:=cells10 HL3.out.res
         have z:=frz HL3.out.res
         have z0:=z 0
         have z1:=z 1
         have z2:=z 2
         have z3:=z 3
         have z4:=z 4
         have z5:=z 5
         have z6:=z 6
         have z7:=z 7
         have z8:=z 8
         have z9:=z 9
         clear z
         go_wp2_with fail
         (try simp only [Exit.inBlock,Exit.then])
         refine bodyPost_ret (res_row rfl (ld_node (pset10 HL3.out.res)) rfl rfl) rfl ?_
         obtain rfl:=HG2.out
         exact .fin (m:=⟨X,cx,Y,cy,⟨true,kd,cs,ds,0,0,0,0,0,0⟩⟩) (b:=false) rfl (fun h=>by cases h) HR3.out HL2.out (by omega) HK3.out HL3.out.res (Nat.le_refl _) HG.out.1
     ·have hlt1:¬ (jj:Int)<(kb:Int):=by omega
      have hke:jj=kb:=by omega
      subst hke
      have HG2:=Lib.hid (show R=(some ⟨true,kd,cs,ds,0,0,0,0,0,0⟩,ls',n1+jj) by
       rw [HR.out,HMANY.out,show jj - jj=0 by omega];rfl)
      clear HR HMANY
      obtain ⟨a0,a1,a2,a3,a4,a5,a6,a7,a8,a9⟩:=cells10 HLB.out.row
      obtain ⟨r0,r1,r2,r3,r4,r5,r6,r7,r8,r9⟩:=cells10 HLB.out.res
      have z:=frz HLB.out.res
      have z0:=z 0
      have z1:=z 1
      have z2:=z 2
      have z3:=z 3
      have z4:=z 4
      have z5:=z 5
      have z6:=z 6
      have z7:=z 7
      have z8:=z 8
      have z9:=z 9
      clear z
      go_wp2_with fail
      (try simp only [Exit.inBlock,Exit.then])
      refine bodyPost_ret (res_row rfl (ld_node (pset10 HLB.out.res)) rfl rfl) rfl ?_
      obtain rfl:=HG2.out
      exact .fin (m:=⟨X,cx,Y,cy,⟨true,kd,cs,ds,0,0,0,0,0,0⟩⟩) (b:=true) rfl (fun _=>⟨HLB.out.cuts,HLB.out.dual,HLB.out.dualF,hf,HLB.out.cutsF,fits_zero,fits_zero,fits_zero,fits_zero,fits_zero,fits_zero⟩) HRD.out HLS2.out hsl' HKP.out HLB.out.res (Nat.le_refl _) HG.out.1
end Go.Proofs.YtljekdpgjaahjaaGreatDoor

/- lorryref39: leaf. (Printed by wip/mku4.py.) -/
import Derived.Test.YtljekdpgjaahjaaGreatDoorPtU2
import Derived.Test.YtljekdpgjaahjaaGreatDoorPtLf
import Derived.Test.YtljekdpgjaahjaaGreatDoorG49
namespace Go.Proofs.YtljekdpgjaahjaaGreatDoor
open Go.RowKit Num Txt Pf
set_option linter.unusedVariables false
attribute [local go_sem] B_size B_get B_toList B_mk B_extract B_append
def OldL (A:Option Addr) (L:List Str) (Bs:Nat):Prop:=0<L.length→∃ b o,A=some ⟨b,o,none⟩∧b<Bs
theorem strs_pos {L:List Str} (h:0<L.length):0<(strs L).length:=by unfold strs;rw [List.length_map];exact h
theorem RdL.old {w:World} {g c n:Nat} {A:Option Addr} {L:List Str} (h:RdL w g A c L n):OldL A L w.heap.size:=fun h0=>by
 obtain ⟨b,o,hA,hb,_⟩:=h.lines (strs_pos h0)
 exact ⟨b,o,hA,hb⟩
theorem RdL.base {w w':World} {g c n Bs:Nat} {A:Option Addr} {L:List Str} (h:RdL w g A c L n) (hb:Below Bs w w') (hg:g<Bs) (hA:OldL A L Bs):RdL w' g A c L n:=by
 refine ⟨by rw [hb.block g hg];exact h.row,fun h0=>?_,h.ne,h.cap⟩
 obtain ⟨b,o,e,hlt,hx⟩:=h.lines h0
 obtain ⟨b2,o2,e2,hlt2⟩:=hA (by unfold strs at h0;rw [List.length_map] at h0;exact h0)
 rw [e] at e2
 injection e2 with e2
 injection e2 with e2 e3 _
 exact ⟨b,o,e,Nat.lt_of_lt_of_le hlt hb.size,fun k v hv=>(hb.cell (p:=⟨b,o+k,none⟩) (by rw [e2];exact hlt2)).trans (hx k v hv)⟩
theorem LeafB.kpL {w w':World} {Bs nb rb g cx cy:Nat} {kd:Int} {X Y:Option Addr} {cs:List (Int × Int × Int)} {ds:List Str} {A:Option Addr} {c n:Nat} {L:List Str} (h:LeafB w Bs nb rb kd X cx cs Y cy ds) (hk:KpB g w w') (hg:RdL w g A c L n) (h1:nb≠g) (h2:rb≠g):LeafB w' Bs nb rb kd X cx cs Y cy ds :=
 ⟨hk.row h.row h1,hk.row h.res h2,h.cuts.keptB hk hg.row (by decide),h.dual.keptB hk hg.row (by decide),h.cutsF,h.dualF⟩
def NodeL (o:Option NodeV × List Str × Nat) (g:Nat) (A:Option Addr) (c:Nat) (L:List Str) (w:World) (e:Ending) (w':World):Prop:=∃ (m:NodeM) (b:Bool),e=.returned (.tuple #[nodeA m,.bool b])∧o.1=(if b then some m.n else none)∧(b=true→NodeO w' w.heap.size m)∧RdL w' g A c L o.2.2∧o.2.1=L.drop o.2.2∧KpB g w w'
theorem NodeL.fin {o:Option NodeV × List Str × Nat} {g rb c:Nat} {A:Option Addr} {L:List Str} {w w5:World} {m:NodeM} {b:Bool} {x0 x1 x2 x3 x4 x5 x6 x7 x8 x9:Value} (h1:o.1=(if b then some m.n else none)) (h2:b=true→NodeO w5 w.heap.size m) (hr:RdL w5 g A c L o.2.2) (hL:o.2.1=L.drop o.2.2) (hk:KpB g w w5) (hres:w5.heap[rb]? = some nodeZ) (hrb:w.heap.size≤rb) (hg:g<w.heap.size) (hA:OldL A L w.heap.size) :
  NodeL o g A c L w (.returned (.tuple #[nodeA m,.bool b])) ((((((((((w5.setCell ⟨rb,0,none⟩ x0).setCell ⟨rb,1,none⟩ x1).setCell ⟨rb,2,none⟩ x2).setCell ⟨rb,3,none⟩ x3).setCell ⟨rb,4,none⟩ x4).setCell ⟨rb,5,none⟩ x5).setCell ⟨rb,6,none⟩ x6).setCell ⟨rb,7,none⟩ x7).setCell ⟨rb,8,none⟩ x8).setCell ⟨rb,9,none⟩ x9):=by
 have k1:=((((((((((KpB.refl rb w5).store 0 x0).store 1 x1).store 2 x2).store 3 x3).store 4 x4).store 5 x5).store 6 x6).store 7 x7).store 8 x8).store 9 x9
 have k2:=(((((((((hk.out hrb 0 x0).out hrb 1 x1).out hrb 2 x2).out hrb 3 x3).out hrb 4 x4).out hrb 5 x5).out hrb 6 x6).out hrb 7 x7).out hrb 8 x8).out hrb 9 x9
 have k3:=((((((((((Below.refl w.heap.size w5).setCell (p:=⟨rb,0,none⟩) hrb x0).setCell (p:=⟨rb,1,none⟩) hrb x1).setCell (p:=⟨rb,2,none⟩) hrb x2).setCell (p:=⟨rb,3,none⟩) hrb x3).setCell (p:=⟨rb,4,none⟩) hrb x4).setCell (p:=⟨rb,5,none⟩) hrb x5).setCell (p:=⟨rb,6,none⟩) hrb x6).setCell (p:=⟨rb,7,none⟩) hrb x7).setCell (p:=⟨rb,8,none⟩) hrb x8).setCell (p:=⟨rb,9,none⟩) hrb x9
 exact ⟨m,b,rfl,h1,fun hb=>(h2 hb).keptB k1 hres (by decide) (by decide),hr.base k3 hg hA,hL,k2⟩
theorem lineN_nil (word:Str) {many:Nat} (hm:0<many):lineN [] word many=none:=by
 apply lineN_no
 have:=(wordsL_le []).1
 right
 have h0:([]:Str).length=0:=rfl
 omega
theorem cutR_nil:cutR []=none:=by unfold cutR;rw [lineN_nil cutW (by decide)]
theorem dualR_nil:dualR []=none:=by
 rw [dualR_w]
 have:=(wordsL_le []).1
 have h0:wordsL []=[]:=List.length_eq_zero_iff.1 (by have h0:([]:Str).length=0:=rfl;omega)
 rw [h0]
 split <;> rfl
theorem many_step {α} {f:Str→Option α} (h0:f []=none) {acc:List α} {k n:Nat} {L:List Str} :
  (f (L.getD n [])=none→manyA f acc (k+1) (L.drop n) n=(none,L.drop (n+1),n+1))∧(∀ c,f (L.getD n [])=some c→manyA f acc (k+1) (L.drop n) n=manyA f (acc ++ [c]) k (L.drop (n+1)) (n+1)∧n<L.length):=by
 cases hd:L.drop n with
 |nil =>
  obtain ⟨h1,h2,h3⟩:=getD_end hd
  rw [h2,h3]
  exact ⟨fun _=>rfl,fun c hc=>by rw [h0] at hc;cases hc⟩
 |cons l ls =>
  obtain ⟨h1,h2,h3⟩:=getD_drop hd
  rw [h2,h3]
  exact ⟨fun h=>manyA_no h,fun c h=>⟨manyA_yes h,h1⟩⟩
theorem cut_okN {l:Str} {rb:Bool} {ks:List Int} (hr:lineN l cutW 3=(if rb then some ks else none)) :
  (rb=true→∃ x y z,ks=[x,y,z]∧cutR l=some (x,y,z)∧fits x∧fits y∧fits z)∧(rb=false→cutR l=none):=by
 unfold cutR
 constructor
 ·intro h
  rw [h,if_pos rfl] at hr
  obtain ⟨_,h3,h4⟩:=lineN_some hr
  obtain ⟨x,y,z,rfl⟩:=three_of h3
  rw [hr]
  exact ⟨x,y,z,rfl,rfl,h4 x (by simp),h4 y (by simp),h4 z (by simp)⟩
 ·intro h
  rw [hr,h];rfl
theorem dual_okN {l:Str} :
  (wordsE l≠0→dualR l=none)∧((wordsL l).length≠2→dualR l=none)∧(∀ a b,wordsL l=[a,b]→(a≠dualW→dualR l=none)∧(rightQ b=false→dualR l=none)∧(wordsE l=0→a=dualW→rightQ b=true→dualR l=some b)):=by
 obtain ⟨h1,h2,h3⟩:=dual_ok (l:=l) rfl
 refine ⟨fun h=>h1 (by simp [h]),h2,fun a b hw=>?_⟩
 obtain ⟨i1,i2,i3⟩:=h3 a b hw
 exact ⟨i1,i2,fun he ha hb=>i3 (by rw [he,hw];rfl) ha hb⟩
theorem getD_len {L:List Str} {n K:Nat} (h:∀ l ∈ L,l.length≤K):(L.getD n []).length≤K:=by
 rw [List.getD_eq_getElem?_getD]
 rcases Nat.lt_or_ge n L.length with h' | h'
 ·rw [List.getElem?_eq_getElem h'];exact h _ (List.getElem_mem h')
 ·rw [List.getElem?_eq_none h'];exact Nat.zero_le _
set_option maxHeartbeats 8000000 in
set_option maxRecDepth 100000 in
theorem rleaf_any (g:Nat) (A:Option Addr) (c:Nat) (L:List Str) (n:Nat) (kd a b:Int) (HA:Option Addr) (hc Bs0:Nat) (w:World) (h:RdL w g A c L n) (hn:n≤70000) (hll:L.length≤70000) (hlen:∀ l ∈ L,l.length≤100000) (hh:OwnS w Bs0 3 HA 3 hc (ints [kd,a,b])) (hg:g<Bs0) (hf:fits kd) :
  Calls Tryz.prog 77 #[.pointer (some ⟨g,0,none⟩),.slice HA 3 hc] w (NodeL (leafA kd a b (L.drop n) n) g A c L w):=by
 obtain ⟨q,rfl,hB,hq,hcap,x0,x1,x2⟩:=own3 hh
 have hgq:q≠g:=by omega
 have hgl:=lt_heap h.row
 have HGL:=Lib.hid hgl
 have HOLD:=Lib.hid h.old
 have HC:=Lib.hid (fun wr (hk:KpB g w wr)=>(⟨(World.cell?_of_block (w:=w) (w':=wr) (a:=⟨q,0,none⟩) (hk.2 q hq hgq)).trans x0,(World.cell?_of_block (w:=w) (w':=wr) (a:=⟨q,1,none⟩) (hk.2 q hq hgq)).trans x1,(World.cell?_of_block (w:=w) (w':=wr) (a:=⟨q,2,none⟩) (hk.2 q hq hgq)).trans x2⟩:wr.cell? ⟨q,0,none⟩=some (.int .i64 kd)∧wr.cell? ⟨q,1,none⟩=some (.int .i64 a)∧wr.cell? ⟨q,2,none⟩=some (.int .i64 b)))
 obtain ⟨n1,p1⟩:=new_at w nodeZ
 obtain ⟨n2,p2⟩:=new_at (w.alloc nodeZ) (.cells #[.bool true,.int .i64 kd,.slice none 0 0,.slice none 0 0,.int .i64 0,.int .i64 0,.int .i64 0,.int .i64 0,.int .i64 0,.int .i64 0] 45)
 have hs1:(w.alloc nodeZ).heap.size=w.heap.size+1:=Array.size_push ..
 have q2:=row_keep p1 n2
 have hb2:=below_lift n1 n2
 rw [hs1] at p2
 have HRD:=Lib.hid (show ∀ w',Below w.heap.size w w'→RdL w' g A c L n from fun w' hb=>h.below hb)
 have HLE0:=Lib.hid (fun k=>getD_len (n:=k) hlen)
 have HG:=Lib.hid (show g≠w.heap.size∧g≠w.heap.size+1∧w.heap.size≠w.heap.size+1∧w.heap.size≤w.heap.size+1 from ⟨by omega,by omega,by omega,by omega⟩)
 have hp2:w.heap.size<((w.alloc nodeZ).alloc (.cells #[.bool true,.int .i64 kd,.slice none 0 0,.slice none 0 0,.int .i64 0,.int .i64 0,.int .i64 0,.int .i64 0,.int .i64 0,.int .i64 0] 45)).heap.size:=lt_heap q2
 have d0:=(HC.out _ (KpB.of_below n1)).1
 clear n1 n2 p1 hs1 h hB hgq hgl hq hlen
 go_enter Tryz.func77,Tryz.ntmps77
 simp only [B_mk]
 go_upto_region 2 with fail
 generalize (w.alloc nodeZ).alloc (.cells #[.bool true,.int .i64 kd,.slice none 0 0,.slice none 0 0,.int .i64 0,.int .i64 0,.int .i64 0,.int .i64 0,.int .i64 0,.int .i64 0] 45)=w2 at *
 generalize w.heap.size+1=nb at *
 have HL2:=Lib.hid (⟨p2,q2,OwnR.nil _ _ _ _,OwnR.nil _ _ _ _,fun c hc=>absurd hc (by simp),fun c hc=>absurd hc (by simp)⟩:LeafB w2 w.heap.size nb w.heap.size kd none 0 [] none 0 [])
 have HB2:=Lib.hid hb2
 have HRD2:=Lib.hid (HRD.out w2 hb2)
 clear x0 x1 x2 p2 q2 hb2 HRD hh d0 hp2
 by_cases hab:a<0∨b<0
 ·have HR:=Lib.hid (show leafA kd a b (L.drop n) n=(none,L.drop n,n) by unfold leafA;rw [if_pos hab])
  generalize leafA kd a b (L.drop n) n=R at *
  obtain rfl:=HR.out
  obtain ⟨x0,x1,x2⟩:=HC.out w2 (KpB.of_below HB2.out)
  obtain ⟨a0,a1,a2,a3,a4,a5,a6,a7,a8,a9⟩:=cells10 HL2.out.row
  obtain ⟨r0,r1,r2,r3,r4,r5,r6,r7,r8,r9⟩:=cells10 HL2.out.res
  have z:=frz HL2.out.res
  have z0:=z 0
  have z1:=z 1
  have z2:=z 2
  have z3:=z 3
  have z4:=z 4
  have z5:=z 5
  have z6:=z 6
  have z7:=z 7
  have z8:=z 8
  have z9:=z 9
  clear z
  have hab2:a<0∨(¬ a<0∧b<0):=by omega
  rcases hab2 with ha | ⟨ha,hb⟩
  all_goals
   go_wp2_with fail
   (try simp only [Exit.inBlock,Exit.then])
   refine bodyPost_ret (res_row rfl (ld_node (pset10 HL2.out.res)) rfl rfl) rfl ?_
   exact .fin (m:=⟨none,0,none,0,⟨true,kd,[],[],0,0,0,0,0,0⟩⟩) (b:=false) rfl (fun h=>by cases h) HRD2.out rfl (KpB.of_below HB2.out) HL2.out.res (Nat.le_refl _) HGL.out HOLD.out
 ·have HR:=Lib.hid (show leafA kd a b (L.drop n) n=(match manyA cutR [] a.toNat (L.drop n) n with
   |(none,ls1,n1)=>(none,ls1,n1)
   |(some cs,ls1,n1)=>match manyA dualR [] b.toNat ls1 n1 with
    |(none,ls2,n2)=>(none,ls2,n2)
    |(some ds,ls2,n2)=>(some ⟨true,kd,cs,ds,0,0,0,0,0,0⟩,ls2,n2)) by unfold leafA;rw [if_neg hab];rfl)
  obtain ⟨ka,rfl⟩:∃ k:Nat,a=k:=⟨a.toNat,by omega⟩
  obtain ⟨kb,rfl⟩:∃ k:Nat,b=k:=⟨b.toNat,by omega⟩
  have ha:¬ (ka:Int)<0:=by omega
  have hb:¬ (kb:Int)<0:=by omega
  rw [Int.toNat_natCast,Int.toNat_natCast] at HR
  generalize leafA kd ka kb (L.drop n) n=R at *
  obtain ⟨x0,x1,x2⟩:=HC.out w2 (KpB.of_below HB2.out)
  clear hab
  go_upto_region 4 with fail
  go_wp2_with fail
  clear x0 x1 x2 ha hb
  go_loopw [7,8,9] (fun i _ _ wr=>∃ (kk:Nat) (X:Option Addr) (cx:Nat) (cs:List (Int × Int × Int)),i=.int .i64 kk∧kk≤ka∧(kk=0∨n+kk≤L.length)∧RdL wr g A c L (n+kk)∧manyA cutR [] ka (L.drop n) n=manyA cutR cs (ka - kk) (L.drop (n+kk)) (n+kk)∧cs.length=kk∧LeafB wr w.heap.size nb w.heap.size kd X cx cs none 0 []∧KpB g w wr) (fun i _ _ _=>ka - (intOf i).toNat)
  case atStart=>exact ⟨0,none,0,[],rfl,by omega,.inl rfl,HRD2.out,rfl,rfl,HL2.out,KpB.of_below HB2.out⟩
  case round =>
   clear HL2 HB2 HRD2
   obtain ⟨kk,X,cx,cs,rfl,hkk,hkn,hrd,hmany,hcl,hlb,hkp⟩:=hrel
   have hnk:n+kk≤70000:=by omega
   have HRD:=Lib.hid hrd
   have HMANY:=Lib.hid hmany
   have HCL:=Lib.hid hcl
   have HLB:=Lib.hid hlb
   have HKP:=Lib.hid hkp
   obtain ⟨x0,x1,x2⟩:=HC.out wr hkp
   clear hrd hmany hcl hlb hkp
   by_cases hlt:kk<ka
   ·have hlt1:(kk:Int)<(ka:Int):=by omega
    have hsub:ka - kk=(ka - kk - 1)+1:=by omega
    obtain ⟨hs0,hs1⟩:=many_step (f:=cutR) cutR_nil (acc:=cs) (k:=ka - kk - 1) (n:=n+kk) (L:=L)
    have HNX:=Lib.hid (rnext_any g A c L (n+kk) wr HRD.out (by omega))
    have HG0:=Lib.hid (show cutR (L.getD (n+kk) [])=none→R=(none,L.drop (n+kk+1),n+kk+1) from fun h=>by
     rw [HR.out,HMANY.out,hsub,hs0 h])
    have HG1:=Lib.hid (show ∀ c,cutR (L.getD (n+kk) [])=some c→manyA cutR [] ka (L.drop n) n=manyA cutR (cs ++ [c]) (ka - (kk+1)) (L.drop (n+(kk+1))) (n+(kk+1))∧n+(kk+1)≤L.length from fun c h=>by
     obtain ⟨e1,e2⟩:=hs1 c h
     exact ⟨by rw [HMANY.out,hsub,e1,show ka - kk - 1=ka - (kk+1) by omega];rfl,by omega⟩)
    have hle:=HLE0.out (n+kk)
    clear hs0 hs1 hsub
    generalize L.getD (n+kk) []=l at *
    have HCUT:=Lib.hid (fun rb ks hr=>cut_okN (l:=l) (rb:=rb) (ks:=ks) hr)
    have HNM:=Lib.hid (fun w'=>rnumbers_any l cutW 3 w' hle ⟨by decide,by decide⟩)
    generalize lineN l cutW 3=ln at *
    generalize cutR l=cl at *
    go_wp2_with fail
    refine HNX.out.mono ?_
    rintro e w3 ⟨rfl,hk3,hr3⟩
    have HK3:=Lib.hid (HKP.out.trans hk3)
    have HL3:=Lib.hid (HLB.out.kpL hk3 HRD.out HG.out.2.1.symm HG.out.1.symm)
    have HR3:=Lib.hid hr3
    have HNM3:=Lib.hid (HNM.out w3)
    clear hk3 hr3 HNX HKP HLB HRD HNM x0 x1 x2
    go_wp2_with fail
    refine HNM3.out.mono ?_
    rintro e w4 ⟨A1,c1,ks,b1,rfl,ho,hown4,hb4⟩
    have HK4:=Lib.hid (HK3.out.below hb4)
    have HL4:=Lib.hid (HL3.out.below hb4)
    have HR4:=Lib.hid (HR3.out.below hb4)
    have HCT:=Lib.hid (HCUT.out b1 ks ho)
    have HNB:=Lib.hid (lt_heap HL3.out.row)
    clear ho hb4 HK3 HL3 HR3 HNM3 HCUT
    cases b1 with
    |true =>
     obtain ⟨x,y,z,rfl,hcr,hfx,hfy,hfz⟩:=HCT.out.1 (by first | rfl | trivial)
     obtain ⟨q4,rfl,hq4,hlt4,hcap4,x0,x1,x2⟩:=own3 hown4
     obtain ⟨_,_,curq,hcur⟩:=OwnR.typ (show OwnR w4 w3.heap.size 3 1 (some ⟨q4,0,none⟩) 3 c1 (ints [x,y,z]) from hown4)
     have hfar4:=HL4.out.cuts.far hcur (by decide)
     have hqn:q4≠nb:=by have:=HNB.out;omega
     clear hcur hq4
     have HMN:=Lib.hid (HG1.out _ hcr)
     have HF3:=Lib.hid (⟨hfx,hfy,hfz⟩:fits x∧fits y∧fits z)
     clear hcr hfx hfy hfz HCT hown4 HG0 HG1
     obtain ⟨a0,a1,a2,a3,a4,a5,a6,a7,a8,a9⟩:=cells10 HL4.out.row
     have z2:=frz HL4.out.row 2
     have hcb:cs.length≤70000:=by rw [HCL.out];omega
     have HLD:=Lib.hid (HL4.out.below (new_at w4 (.cells #[.int .i64 x,.int .i64 y,.int .i64 z] 107)).1.drew)
     have HCN:=Lib.hid (show ∀ j u,[Value.int .i64 x,.int .i64 y,.int .i64 z][j]? = some u→((w4.alloc (.cells #[.int .i64 x,.int .i64 y,.int .i64 z] 107)).drew).cell? ⟨w4.heap.size,j,none⟩=some u from cells_newP)
     have HSZ:=Lib.hid (show w.heap.size≤((w4.alloc (.cells #[.int .i64 x,.int .i64 y,.int .i64 z] 107)).drew).heap.size from Nat.le_trans HK4.out.1 (new_at w4 (.cells #[.int .i64 x,.int .i64 y,.int .i64 z] 107)).1.size)
     have HON:=Lib.hid (show ∀ u ∈ [Value.int .i64 x,.int .i64 y,.int .i64 z],u.oneCell'=true from by intro u hu;simp at hu;rcases hu with rfl | rfl | rfl <;> rfl)
     have HSK:=Lib.hid (show ∀ w',w'.heap[q4]? = w4.heap[q4]? → w'.cell? ⟨q4,0,none⟩=some (.int .i64 x)∧w'.cell? ⟨q4,1,none⟩=some (.int .i64 y)∧w'.cell? ⟨q4,2,none⟩=some (.int .i64 z) from fun w' hb=>⟨(World.cell?_of_block (w:=w4) (w':=w') (a:=⟨q4,0,none⟩) hb).trans x0,(World.cell?_of_block (w:=w4) (w':=w') (a:=⟨q4,1,none⟩) hb).trans x1,(World.cell?_of_block (w:=w4) (w':=w') (a:=⟨q4,2,none⟩) hb).trans x2⟩)
     have HSA:=Lib.hid (show ((w4.alloc (.cells #[.int .i64 x,.int .i64 y,.int .i64 z] 107)).drew).heap[q4]? = w4.heap[q4]? from (new_at w4 (.cells #[.int .i64 x,.int .i64 y,.int .i64 z] 107)).1.block _ hlt4)
     have HFA:=Lib.hid (hfar4:∀ off sp,X≠some ⟨q4,off,sp⟩)
     have HQN:=Lib.hid (hqn:q4≠nb)
     have hS0:=HSK.out w4.drew rfl
     obtain ⟨_,_,g2,_⟩:=cells10 HLD.out.row
     go_upto_region 10 with fail
     refine wp_region_held_drew (S:=fun w'=>w'.cell? ⟨q4,0,none⟩=some (.int .i64 x)∧w'.cell? ⟨q4,1,none⟩=some (.int .i64 y)∧w'.cell? ⟨q4,2,none⟩=some (.int .i64 z)) (by kernel_rfl) hS0 (fun hHeld=>?_)
     refine wpAnyH_take (i:=0) (v:=?_) (by simp only [List.getElem?_toArray,List.getElem?_cons_zero];rfl) (by kernel_rfl) (by kernel_rfl) (by kernel_rfl) (by exact fun _ _ _ h=>h) (Or.inl ⟨by rfl,?_⟩) (by assumption) ?_
     rotate_left
     ·(intro w hSw;(try dsimp only at hSw);go_simp;(try with_reducible rfl))
     (try simp only [Act.put,List.setIfInBounds_toArray,List.set_cons_zero,List.set_cons_succ])
     refine wpAnyH_take (i:=2) (v:=?_) (by simp only [List.getElem?_toArray,List.getElem?_cons_succ,List.getElem?_cons_zero];rfl) (by kernel_rfl) (by kernel_rfl) (by kernel_rfl) (by exact fun _ _ _ h=>h) (Or.inl ⟨by rfl,?_⟩) (by assumption) ?_
     rotate_left
     ·(intro w hSw;(try dsimp only at hSw);go_simp;(try with_reducible rfl))
     (try simp only [Act.put,List.setIfInBounds_toArray,List.set_cons_zero,List.set_cons_succ])
     refine wpAnyH_take (i:=3) (v:=?_) (by simp only [List.getElem?_toArray,List.getElem?_cons_succ,List.getElem?_cons_zero];rfl) (by kernel_rfl) (by kernel_rfl) (by kernel_rfl) (by exact fun _ _ _ h=>h) (Or.inl ⟨by rfl,?_⟩) (by assumption) ?_
     rotate_left
     ·(intro w hSw;(try dsimp only at hSw);go_simp;(try with_reducible rfl))
     (try simp only [Act.put,List.setIfInBounds_toArray,List.set_cons_zero,List.set_cons_succ])
     refine wpAnyH_take (i:=4) (v:=?_) (by simp only [List.getElem?_toArray,List.getElem?_cons_succ,List.getElem?_cons_zero];rfl) (by kernel_rfl) (by kernel_rfl) (by kernel_rfl) (by exact fun _ _ _ h=>h) (Or.inl ⟨by rfl,?_⟩) (by assumption) ?_
     rotate_left
     ·(intro w hSw;(try dsimp only at hSw);go_simp;(try with_reducible rfl))
     (try simp only [Act.put,List.setIfInBounds_toArray,List.set_cons_zero,List.set_cons_succ])
     refine wpAnyH_take (i:=5) (v:=?_) (by simp only [List.getElem?_toArray,List.getElem?_cons_succ,List.getElem?_cons_zero];rfl) (by kernel_rfl) (by kernel_rfl) (by kernel_rfl) (by exact fun _ _ _ h=>h) (Or.inl ⟨by rfl,?_⟩) (by assumption) ?_
     rotate_left
     ·(intro w hSw;(try dsimp only at hSw);go_simp;(try with_reducible rfl))
     (try simp only [Act.put,List.setIfInBounds_toArray,List.set_cons_zero,List.set_cons_succ])
     refine wpAnyH_take (i:=6) (v:=?_) (by simp only [List.getElem?_toArray,List.getElem?_cons_succ,List.getElem?_cons_zero];rfl) (by kernel_rfl) (by kernel_rfl) (by kernel_rfl) (by exact fun _ _ _ h=>h) (Or.inl ⟨by rfl,?_⟩) (by assumption) ?_
     rotate_left
     ·(intro w hSw;(try dsimp only at hSw);go_simp;(try with_reducible rfl))
     (try simp only [Act.put,List.setIfInBounds_toArray,List.set_cons_zero,List.set_cons_succ])
     refine wpAnyH_take (i:=7) (v:=?_) (by simp only [List.getElem?_toArray,List.getElem?_cons_succ,List.getElem?_cons_zero];rfl) (by kernel_rfl) (by kernel_rfl) (by kernel_rfl) (by exact fun _ _ _ h=>h) (Or.inl ⟨by rfl,?_⟩) (by assumption) ?_
     rotate_left
     ·(intro w hSw;(try dsimp only at hSw);go_simp;(try with_reducible rfl))
     (try simp only [Act.put,List.setIfInBounds_toArray,List.set_cons_zero,List.set_cons_succ])
     refine wpAnyH_take (i:=8) (v:=?_) (by simp only [List.getElem?_toArray,List.getElem?_cons_succ,List.getElem?_cons_zero];rfl) (by kernel_rfl) (by kernel_rfl) (by kernel_rfl) (by exact fun _ _ _ h=>h) (Or.inl ⟨by rfl,?_⟩) (by assumption) ?_
     rotate_left
     ·(intro w hSw;(try dsimp only at hSw);go_simp;(try with_reducible rfl))
     (try simp only [Act.put,List.setIfInBounds_toArray,List.set_cons_zero,List.set_cons_succ])
     refine wpAnyH_take (i:=9) (v:=?_) (by simp only [List.getElem?_toArray,List.getElem?_cons_succ,List.getElem?_cons_zero];rfl) (by kernel_rfl) (by kernel_rfl) (by kernel_rfl) (by exact fun _ _ _ h=>h) (Or.inl ⟨by rfl,?_⟩) (by assumption) ?_
     rotate_left
     ·(intro w hSw;(try dsimp only at hSw);go_simp;(try with_reducible rfl))
     (try simp only [Act.put,List.setIfInBounds_toArray,List.set_cons_zero,List.set_cons_succ])
     refine wpAnyH_take (i:=10) (v:=?_) (by simp only [List.getElem?_toArray,List.getElem?_cons_succ,List.getElem?_cons_zero];rfl) (by kernel_rfl) (by kernel_rfl) (by kernel_rfl) (by exact fun _ _ _ h=>h) (Or.inl ⟨by rfl,?_⟩) (by assumption) ?_
     rotate_left
     ·(intro w hSw;(try dsimp only at hSw);go_simp;(try with_reducible rfl))
     (try simp only [Act.put,List.setIfInBounds_toArray,List.set_cons_zero,List.set_cons_succ])
     refine wpAnyH_take (i:=11) (v:=?_) (by simp only [List.getElem?_toArray,List.getElem?_cons_succ,List.getElem?_cons_zero];rfl) (by kernel_rfl) (by kernel_rfl) (by kernel_rfl) (by exact fun _ _ _ h=>h) (Or.inl ⟨by rfl,?_⟩) (by assumption) ?_
     rotate_left
     ·(intro w hSw;(try dsimp only at hSw);go_simp;(try with_reducible rfl))
     (try simp only [Act.put,List.setIfInBounds_toArray,List.set_cons_zero,List.set_cons_succ])
     refine wpAnyH_ready (rs:=[1,12]) (by kernel_rfl) (by simp) (AllReadyH.cons (by simp only [List.getElem?_toArray,List.getElem?_cons_succ,List.getElem?_cons_zero];rfl) (fun K hK=>?_) (AllReadyH.cons (by simp only [List.getElem?_toArray,List.getElem?_cons_succ,List.getElem?_cons_zero];rfl) (fun K hK=>?_) AllReadyH.nil))
     ·go_simp
      refine hK.out _ _ (by assumption) (fun hHeld=>?_)
      clear hK K
      (try simp only [Act.put,List.setIfInBounds_toArray,List.set_cons_zero,List.set_cons_succ])
      refine wpAnyH_ready (rs:=[12]) (by kernel_rfl) (by simp) (AllReadyH.cons (by simp only [List.getElem?_toArray,List.getElem?_cons_succ,List.getElem?_cons_zero];rfl) (fun K hK=>?_) AllReadyH.nil)
      go_simp
      refine hK.out _ _ (HSK.out _ HSA.out) (fun hHeld=>?_)
      clear hK K
      (try simp only [Act.put,List.setIfInBounds_toArray,List.set_cons_zero,List.set_cons_succ])
      refine wpAnyH_ready (rs:=[13]) (by kernel_rfl) (by simp) (AllReadyH.cons (by simp only [List.getElem?_toArray,List.getElem?_cons_succ,List.getElem?_cons_zero];rfl) (fun K hK=>?_) AllReadyH.nil)
      refine step_appk el_pcut rfl _ _ rfl w.heap.size X cs.length cx (cs.flatMap cutC) ((w4.alloc (.cells #[.int .i64 x,.int .i64 y,.int .i64 z] 107)).drew) w4.heap.size [.int .i64 x,.int .i64 y,.int .i64 z] rfl HLD.out.cuts rfl rfl HCN.out HON.out (by unfold maxLen;omega) (by omega) HSZ.out ?_
      intro A5 c5 w5 hown5 hb5 hk5
      have p5:=hk5.row HLD.out.row (HLD.out.cuts.far HLD.out.row (by decide))
      have y2:=frz p5 2
      obtain ⟨e0,e1,e2,e3,e4,e5,e6,e7,e8,e9⟩:=cells10 p5
      refine hK.out _ _ (HSK.out w5 ((hk5.2 _ (Nat.lt_of_lt_of_le hlt4 (new_at w4 (.cells #[.int .i64 x,.int .i64 y,.int .i64 z] 107)).1.size) HFA.out).trans HSA.out)) (fun hHeld5=>?_)
      clear hK K
      (try simp only [Act.put,List.setIfInBounds_toArray,List.set_cons_zero,List.set_cons_succ])
      refine wpAnyH_take (i:=14) (v:=?_) (by simp only [List.getElem?_toArray,List.getElem?_cons_succ,List.getElem?_cons_zero];rfl) (by kernel_rfl) (by kernel_rfl) (by kernel_rfl) (by exact fun _ _ _ h=>h) (Or.inl ⟨by rfl,?_⟩) (by assumption) ?_
      rotate_left
      ·(intro w hSw;(try dsimp only at hSw);go_simp;(try with_reducible rfl))
      (try simp only [Act.put,List.setIfInBounds_toArray,List.set_cons_zero,List.set_cons_succ])
      refine wpAnyH_ready (rs:=[15]) (by kernel_rfl) (by simp) (AllReadyH.cons (by simp only [List.getElem?_toArray,List.getElem?_cons_succ,List.getElem?_cons_zero];rfl) (fun K hK=>?_) AllReadyH.nil)
      go_simp
      refine hK.out _ _ (HSK.out _ ((Below.heap_setCell w5 ⟨nb,2,none⟩ (.slice A5 (cs.length+1) c5) _ HQN.out).trans ((hk5.2 _ (Nat.lt_of_lt_of_le hlt4 (new_at w4 (.cells #[.int .i64 x,.int .i64 y,.int .i64 z] 107)).1.size) HFA.out).trans HSA.out))) (fun hHeld6=>?_)
      clear hK K
      (try simp only [Act.put,List.setIfInBounds_toArray,List.set_cons_zero,List.set_cons_succ])
      refine wpAnyH_done (by kernel_rfl) ?_ _
      have hkb:=(KpB.refl nb w5).store 2 (.slice A5 (cs.length+1) c5)
      have hle:(cs ++ [(x,y,z)]).length=cs.length+1:=by simp
      have hxs:cs.flatMap cutC ++ [Value.int .i64 x,Value.int .i64 y,Value.int .i64 z]=(cs ++ [(x,y,z)]).flatMap cutC:=flat_snoc cutC cs (x,y,z)
      rw [hxs] at hown5
      have HL6:=Lib.hid (show LeafB (w5.setCell ⟨nb,2,none⟩ (.slice A5 (cs.length+1) c5)) w.heap.size nb w.heap.size kd A5 c5 (cs ++ [(x,y,z)]) none 0 [] from by
       refine ⟨by rw [hle];exact heap_put p5,(Below.heap_setCell w5 ⟨nb,2,none⟩ (.slice A5 (cs.length+1) c5) _ HG.out.2.2.1).trans (hk5.row HLD.out.res (HLD.out.cuts.far HLD.out.res (by decide))),by rw [hle];exact hown5.keptB hkb p5 (by decide),OwnR.nil _ _ _ _,fun c hc=>?_,fun d hd=>absurd hd (by simp)⟩
       rcases List.mem_append.1 hc with h | h
       ·exact HLD.out.cutsF c h
       ·rw [List.mem_singleton.1 h];exact HF3.out)
      have HR6:=Lib.hid (show RdL (w5.setCell ⟨nb,2,none⟩ (.slice A5 (cs.length+1) c5)) g A c L (n+(kk+1)) from (HR4.out.below (new_at w4 (.cells #[.int .i64 x,.int .i64 y,.int .i64 z] 107)).1.drew).base (hb5.setCell (p:=⟨nb,2,none⟩) HG.out.2.2.2 _) HGL.out HOLD.out)
      have HK6:=Lib.hid (((HK4.out.below (new_at w4 (.cells #[.int .i64 x,.int .i64 y,.int .i64 z] 107)).1.drew).belowB hb5).out (b:=nb) HG.out.2.2.2 2 (.slice A5 (cs.length+1) c5))
      have HLE:=Lib.hid hle
      clear hkb hle hxs
      go_wp2_with fail
      all_goals first
       |exact ⟨⟨kk+1,A5,c5,cs ++ [(x,y,z)],by go_num,by omega,.inr HMN.out.2,HR6.out,HMN.out.1,by rw [HLE.out,HCL.out],HL6.out,HK6.out⟩,by simp [intOf];omega⟩
       |(go_roundw
         case rel=>exact ⟨kk+1,A5,c5,cs ++ [(x,y,z)],by go_num,by omega,.inr HMN.out.2,HR6.out,HMN.out.1,by rw [HLE.out,HCL.out],HL6.out,HK6.out⟩
         case measure=>simp [intOf];omega)
     ·go_simp
      refine hK.out _ _ (HSK.out _ HSA.out) (fun hHeld=>?_)
      clear hK K
      (try simp only [Act.put,List.setIfInBounds_toArray,List.set_cons_zero,List.set_cons_succ])
      refine wpAnyH_ready (rs:=[1]) (by kernel_rfl) (by simp) (AllReadyH.cons (by simp only [List.getElem?_toArray,List.getElem?_cons_succ,List.getElem?_cons_zero];rfl) (fun K hK=>?_) AllReadyH.nil)
      go_simp
      refine hK.out _ _ (HSK.out _ HSA.out) (fun hHeld=>?_)
      clear hK K
      (try simp only [Act.put,List.setIfInBounds_toArray,List.set_cons_zero,List.set_cons_succ])
      refine wpAnyH_ready (rs:=[13]) (by kernel_rfl) (by simp) (AllReadyH.cons (by simp only [List.getElem?_toArray,List.getElem?_cons_succ,List.getElem?_cons_zero];rfl) (fun K hK=>?_) AllReadyH.nil)
      refine step_appk el_pcut rfl _ _ rfl w.heap.size X cs.length cx (cs.flatMap cutC) ((w4.alloc (.cells #[.int .i64 x,.int .i64 y,.int .i64 z] 107)).drew) w4.heap.size [.int .i64 x,.int .i64 y,.int .i64 z] rfl HLD.out.cuts rfl rfl HCN.out HON.out (by unfold maxLen;omega) (by omega) HSZ.out ?_
      intro A5 c5 w5 hown5 hb5 hk5
      have p5:=hk5.row HLD.out.row (HLD.out.cuts.far HLD.out.row (by decide))
      have y2:=frz p5 2
      obtain ⟨e0,e1,e2,e3,e4,e5,e6,e7,e8,e9⟩:=cells10 p5
      refine hK.out _ _ (HSK.out w5 ((hk5.2 _ (Nat.lt_of_lt_of_le hlt4 (new_at w4 (.cells #[.int .i64 x,.int .i64 y,.int .i64 z] 107)).1.size) HFA.out).trans HSA.out)) (fun hHeld5=>?_)
      clear hK K
      (try simp only [Act.put,List.setIfInBounds_toArray,List.set_cons_zero,List.set_cons_succ])
      refine wpAnyH_take (i:=14) (v:=?_) (by simp only [List.getElem?_toArray,List.getElem?_cons_succ,List.getElem?_cons_zero];rfl) (by kernel_rfl) (by kernel_rfl) (by kernel_rfl) (by exact fun _ _ _ h=>h) (Or.inl ⟨by rfl,?_⟩) (by assumption) ?_
      rotate_left
      ·(intro w hSw;(try dsimp only at hSw);go_simp;(try with_reducible rfl))
      (try simp only [Act.put,List.setIfInBounds_toArray,List.set_cons_zero,List.set_cons_succ])
      refine wpAnyH_ready (rs:=[15]) (by kernel_rfl) (by simp) (AllReadyH.cons (by simp only [List.getElem?_toArray,List.getElem?_cons_succ,List.getElem?_cons_zero];rfl) (fun K hK=>?_) AllReadyH.nil)
      go_simp
      refine hK.out _ _ (HSK.out _ ((Below.heap_setCell w5 ⟨nb,2,none⟩ (.slice A5 (cs.length+1) c5) _ HQN.out).trans ((hk5.2 _ (Nat.lt_of_lt_of_le hlt4 (new_at w4 (.cells #[.int .i64 x,.int .i64 y,.int .i64 z] 107)).1.size) HFA.out).trans HSA.out))) (fun hHeld6=>?_)
      clear hK K
      (try simp only [Act.put,List.setIfInBounds_toArray,List.set_cons_zero,List.set_cons_succ])
      refine wpAnyH_done (by kernel_rfl) ?_ _
      have hkb:=(KpB.refl nb w5).store 2 (.slice A5 (cs.length+1) c5)
      have hle:(cs ++ [(x,y,z)]).length=cs.length+1:=by simp
      have hxs:cs.flatMap cutC ++ [Value.int .i64 x,Value.int .i64 y,Value.int .i64 z]=(cs ++ [(x,y,z)]).flatMap cutC:=flat_snoc cutC cs (x,y,z)
      rw [hxs] at hown5
      have HL6:=Lib.hid (show LeafB (w5.setCell ⟨nb,2,none⟩ (.slice A5 (cs.length+1) c5)) w.heap.size nb w.heap.size kd A5 c5 (cs ++ [(x,y,z)]) none 0 [] from by
       refine ⟨by rw [hle];exact heap_put p5,(Below.heap_setCell w5 ⟨nb,2,none⟩ (.slice A5 (cs.length+1) c5) _ HG.out.2.2.1).trans (hk5.row HLD.out.res (HLD.out.cuts.far HLD.out.res (by decide))),by rw [hle];exact hown5.keptB hkb p5 (by decide),OwnR.nil _ _ _ _,fun c hc=>?_,fun d hd=>absurd hd (by simp)⟩
       rcases List.mem_append.1 hc with h | h
       ·exact HLD.out.cutsF c h
       ·rw [List.mem_singleton.1 h];exact HF3.out)
      have HR6:=Lib.hid (show RdL (w5.setCell ⟨nb,2,none⟩ (.slice A5 (cs.length+1) c5)) g A c L (n+(kk+1)) from (HR4.out.below (new_at w4 (.cells #[.int .i64 x,.int .i64 y,.int .i64 z] 107)).1.drew).base (hb5.setCell (p:=⟨nb,2,none⟩) HG.out.2.2.2 _) HGL.out HOLD.out)
      have HK6:=Lib.hid (((HK4.out.below (new_at w4 (.cells #[.int .i64 x,.int .i64 y,.int .i64 z] 107)).1.drew).belowB hb5).out (b:=nb) HG.out.2.2.2 2 (.slice A5 (cs.length+1) c5))
      have HLE:=Lib.hid hle
      clear hkb hle hxs
      go_wp2_with fail
      all_goals first
       |exact ⟨⟨kk+1,A5,c5,cs ++ [(x,y,z)],by go_num,by omega,.inr HMN.out.2,HR6.out,HMN.out.1,by rw [HLE.out,HCL.out],HL6.out,HK6.out⟩,by simp [intOf];omega⟩
       |(go_roundw
         case rel=>exact ⟨kk+1,A5,c5,cs ++ [(x,y,z)],by go_num,by omega,.inr HMN.out.2,HR6.out,HMN.out.1,by rw [HLE.out,HCL.out],HL6.out,HK6.out⟩
         case measure=>simp [intOf];omega)
    |false =>
     have HG2:=Lib.hid (HG0.out (HCT.out.2 (by first | rfl | trivial)))
     clear HCT HG0 HG1
     obtain ⟨a0,a1,a2,a3,a4,a5,a6,a7,a8,a9⟩:=cells10 HL4.out.row
     obtain ⟨r0,r1,r2,r3,r4,r5,r6,r7,r8,r9⟩:=cells10 HL4.out.res
     have z:=frz HL4.out.res
     have z0:=z 0
     have z1:=z 1
     have z2:=z 2
     have z3:=z 3
     have z4:=z 4
     have z5:=z 5
     have z6:=z 6
     have z7:=z 7
     have z8:=z 8
     have z9:=z 9
     clear z
     go_wp2_with fail
     (try simp only [Exit.inBlock,Exit.then])
     refine bodyPost_ret (res_row rfl (ld_node (pset10 HL4.out.res)) rfl rfl) rfl ?_
     obtain rfl:=HG2.out
     exact .fin (m:=⟨X,cx,none,0,⟨true,kd,cs,[],0,0,0,0,0,0⟩⟩) (b:=false) rfl (fun h=>by cases h) HR4.out rfl HK4.out HL4.out.res (Nat.le_refl _) HGL.out HOLD.out
   ·have hlt1:¬ (kk:Int)<(ka:Int):=by omega
    have hke:kk=ka:=by omega
    subst hke
    have hR2:R=(match manyA dualR [] kb (L.drop (n+kk)) (n+kk) with
     |(none,ls2,n2)=>(none,ls2,n2)
     |(some ds,ls2,n2)=>(some ⟨true,kd,cs,ds,0,0,0,0,0,0⟩,ls2,n2)):=by
     rw [HR.out,HMANY.out,show kk - kk=0 by omega];rfl
    have HR:=Lib.hid hR2
    have HCB:=Lib.hid (show cs.length≤70000 by rw [HCL.out];omega)
    clear hR2 HMANY HCL hkk hkn hlt
    generalize n+kk=n1 at *
    go_upto_region 11 with fail
    go_wp2_with fail
    clear x0 x1 x2 hlt1
    have HRD0:=Lib.hid HRD.out
    have HLB0:=Lib.hid HLB.out
    have HKP0:=Lib.hid HKP.out
    clear HRD HLB HKP
    go_loopw [10,11,12] (fun i _ _ wr=>∃ (jj:Nat) (Y:Option Addr) (cy:Nat) (ds:List Str),i=.int .i64 jj∧jj≤kb∧(jj=0∨n1+jj≤L.length)∧RdL wr g A c L (n1+jj)∧manyA dualR [] kb (L.drop n1) n1=manyA dualR ds (kb - jj) (L.drop (n1+jj)) (n1+jj)∧ds.length=jj∧LeafB wr w.heap.size nb w.heap.size kd X cx cs Y cy ds∧KpB g w wr) (fun i _ _ _=>kb - (intOf i).toNat)
    case atStart=>exact ⟨0,none,0,[],rfl,by omega,.inl rfl,HRD0.out,rfl,rfl,HLB0.out,HKP0.out⟩
    case round =>
     clear HRD0 HLB0 HKP0
     obtain ⟨jj,Y,cy,ds,rfl,hjj,hjn,hrd,hmany,hdl,hlb,hkp⟩:=hrel
     have hnj:n1+jj≤70000:=by omega
     have HRD:=Lib.hid hrd
     have HMANY:=Lib.hid hmany
     have HDL:=Lib.hid hdl
     have HLB:=Lib.hid hlb
     have HKP:=Lib.hid hkp
     obtain ⟨x0,x1,x2⟩:=HC.out wr hkp
     clear hrd hmany hdl hlb hkp
     by_cases hlt:jj<kb
     ·have hlt1:(jj:Int)<(kb:Int):=by omega
      have hsub:kb - jj=(kb - jj - 1)+1:=by omega
      obtain ⟨hs0,hs1⟩:=many_step (f:=dualR) dualR_nil (acc:=ds) (k:=kb - jj - 1) (n:=n1+jj) (L:=L)
      have HNX:=Lib.hid (rnext_any g A c L (n1+jj) wr HRD.out (by omega))
      have HG0:=Lib.hid (show dualR (L.getD (n1+jj) [])=none→R=(none,L.drop (n1+jj+1),n1+jj+1) from fun h=>by
       rw [HR.out,HMANY.out,hsub,hs0 h])
      have HG1:=Lib.hid (show ∀ c,dualR (L.getD (n1+jj) [])=some c→manyA dualR [] kb (L.drop n1) n1=manyA dualR (ds ++ [c]) (kb - (jj+1)) (L.drop (n1+(jj+1))) (n1+(jj+1))∧n1+(jj+1)≤L.length from fun c h=>by
       obtain ⟨e1,e2⟩:=hs1 c h
       exact ⟨by rw [HMANY.out,hsub,e1,show kb - jj - 1=kb - (jj+1) by omega];rfl,by omega⟩)
      have hle:=HLE0.out (n1+jj)
      clear hs0 hs1 hsub
      generalize L.getD (n1+jj) []=l at *
      have HDU:=Lib.hid (dual_okN (l:=l))
      have HWD:=Lib.hid (fun w'=>rwords_any l w' hle)
      have HWL:=Lib.hid (wordsL_le l)
      generalize dualR l=dr at *
      generalize wordsL l=wl at *
      generalize wordsE l=we at *
      go_wp2_with fail
      refine HNX.out.mono ?_
      rintro e w3 ⟨rfl,hk3,hr3⟩
      have HK3:=Lib.hid (HKP.out.trans hk3)
      have HL3:=Lib.hid (HLB.out.kpL hk3 HRD.out HG.out.2.1.symm HG.out.1.symm)
      have HR3:=Lib.hid hr3
      have HWD3:=Lib.hid (HWD.out w3)
      clear hk3 hr3 HNX HKP HLB HRD HWD x0 x1 x2
      go_wp2_with fail
      refine HWD3.out.mono ?_
      rintro e w4 ⟨WA,wc,rfl,hown,hb4⟩
      have HK4:=Lib.hid (HK3.out.below hb4)
      have HL4:=Lib.hid (HL3.out.below hb4)
      have HR4:=Lib.hid (HR3.out.below hb4)
      have HNB:=Lib.hid (lt_heap HL3.out.row)
      have HOW:=Lib.hid hown
      clear hb4 HK3 HL3 HR3 HWD3 hown
      by_cases hbad:we≠0∨wl.length≠2
      ·have HG2:=Lib.hid (HG0.out (by rcases hbad with h | h;exact HDU.out.1 h;exact HDU.out.2.1 h))
       have hcs:(we != 0)=true∨((we != 0)=false∧((wl.length:Int) != 2)=true):=by
        by_cases h:we=0
        ·right
         refine ⟨by rw [h];rfl,?_⟩
         rcases hbad with h2 | h2
         ·exact absurd h h2
         ·simp;omega
        ·left;simpa using h
       clear hbad HDU HG0 HG1
       rcases hcs with e1 | ⟨e1,e2⟩
       all_goals
        obtain ⟨a0,a1,a2,a3,a4,a5,a6,a7,a8,a9⟩:=cells10 HL4.out.row
        obtain ⟨r0,r1,r2,r3,r4,r5,r6,r7,r8,r9⟩:=cells10 HL4.out.res
        have z:=frz HL4.out.res
        have z0:=z 0
        have z1:=z 1
        have z2:=z 2
        have z3:=z 3
        have z4:=z 4
        have z5:=z 5
        have z6:=z 6
        have z7:=z 7
        have z8:=z 8
        have z9:=z 9
        clear z
        go_wp2_with fail
        (try simp only [Exit.inBlock,Exit.then])
        refine bodyPost_ret (res_row rfl (ld_node (pset10 HL4.out.res)) rfl rfl) rfl ?_
        obtain rfl:=HG2.out
        exact .fin (m:=⟨X,cx,Y,cy,⟨true,kd,cs,ds,0,0,0,0,0,0⟩⟩) (b:=false) rfl (fun h=>by cases h) HR4.out rfl HK4.out HL4.out.res (Nat.le_refl _) HGL.out HOLD.out
      ·have hwe:we=0:=Classical.byContradiction fun h=>hbad (.inl h)
       have hl2':∃ x y,wl=[x,y]:=by
        match wl,hbad with
        |[x,y],_=>exact ⟨x,y,rfl⟩
        |[],hb=>exact absurd (.inr (by simp)) hb
        |[_],hb=>exact absurd (.inr (by simp)) hb
        |_ :: _ :: _ :: _,hb=>exact absurd (.inr (by simp)) hb
       obtain ⟨x,y,rfl⟩:=hl2'
       subst hwe
       have HD2:=Lib.hid (HDU.out.2.2 x y rfl)
       obtain ⟨q4,rfl,hq4,hlt4,hcap4,x0,x1⟩:=own2s HOW.out
       have HYL:=Lib.hid (HWL.out.2 y (by simp))
       clear hbad HDU
       by_cases hxd:x=dualW
       ·have e2:(x == [100,117,97,108])=true:=by simpa using hxd
        have e2':(x != [100,117,97,108])=false:=by simpa using hxd
        have HRQ:=Lib.hid (rrq_any y w4 (by have:=HYL.out;omega))
        have HX:=Lib.hid hxd
        clear hxd
        cases hrq:rightQ y with
        |true =>
         have HMN:=Lib.hid (HG1.out y (HD2.out.2.2 rfl HX.out hrq))
         rw [hrq] at HRQ
         clear hrq HD2 HG0 HG1 HX
         go_wp2_with fail
         refine HRQ.out.mono ?_
         rintro e w5 ⟨rfl,hb5⟩
         have HK5:=Lib.hid (HK4.out.below hb5)
         have HL5:=Lib.hid (HL4.out.below hb5)
         have HR5:=Lib.hid (HR4.out.below hb5)
         have HOW5:=Lib.hid (HOW.out.below hb5)
         have y1:=(hb5.cell (p:=⟨q4,1,none⟩) hlt4).trans x1
         have hlt4:=Nat.lt_of_lt_of_le hlt4 hb5.size
         clear hb5 HK4 HL4 HR4 HOW HRQ x0 x1
         obtain ⟨_,_,curq,hcur⟩:=OwnR.typ (show OwnR w5 w3.heap.size 9 1 (some ⟨q4,0,none⟩) 2 wc (strs [x,y]) from HOW5.out)
         have HFA:=Lib.hid (HL5.out.dual.far hcur (by decide))
         have HQN:=Lib.hid (show q4≠nb by have:=HNB.out;omega)
         clear hcur hq4
         obtain ⟨a0,a1,a2,a3,a4,a5,a6,a7,a8,a9⟩:=cells10 HL5.out.row
         have hdb:ds.length≤70000:=by rw [HDL.out];omega
         have HLD:=Lib.hid (HL5.out.below (new_at w5 (.cells #[.string (B y)] 46)).1.drew)
         have HCN:=Lib.hid (show ∀ j u,[Value.string (B y)][j]? = some u→((w5.alloc (.cells #[.string (B y)] 46)).drew).cell? ⟨w5.heap.size,j,none⟩=some u from cells_newP)
         have HSZ:=Lib.hid (show w.heap.size≤((w5.alloc (.cells #[.string (B y)] 46)).drew).heap.size from Nat.le_trans HK5.out.1 (new_at w5 (.cells #[.string (B y)] 46)).1.size)
         have HON:=Lib.hid (show ∀ u ∈ [Value.string (B y)],u.oneCell'=true from by intro u hu;simp at hu;rw [hu];rfl)
         have HSK:=Lib.hid (show ∀ w',w'.heap[q4]? = w5.heap[q4]? → w'.cell? ⟨q4,1,none⟩=some (.string (B y)) from fun w' hb=>(World.cell?_of_block (w:=w5) (w':=w') (a:=⟨q4,1,none⟩) hb).trans y1)
         have HSA:=Lib.hid (show ((w5.alloc (.cells #[.string (B y)] 46)).drew).heap[q4]? = w5.heap[q4]? from (new_at w5 (.cells #[.string (B y)] 46)).1.block _ hlt4)
         have hS0:=HSK.out w5.drew rfl
         obtain ⟨_,_,_,g3,_⟩:=cells10 HLD.out.row
         go_upto_region 17 with fail
         refine wp_region_held_drew (S:=fun w'=>w'.cell? ⟨q4,1,none⟩=some (.string (B y))) (by kernel_rfl) hS0 (fun hHeld=>?_)
         refine wpAnyH_take (i:=0) (v:=?_) (by simp only [List.getElem?_toArray,List.getElem?_cons_zero];rfl) (by kernel_rfl) (by kernel_rfl) (by kernel_rfl) (by exact fun _ _ _ h=>h) (Or.inl ⟨by rfl,?_⟩) (by assumption) ?_
         rotate_left
         ·(intro w hSw;(try dsimp only at hSw);go_simp;(try with_reducible rfl))
         (try simp only [Act.put,List.setIfInBounds_toArray,List.set_cons_zero,List.set_cons_succ])
         refine wpAnyH_take (i:=2) (v:=?_) (by simp only [List.getElem?_toArray,List.getElem?_cons_succ,List.getElem?_cons_zero];rfl) (by kernel_rfl) (by kernel_rfl) (by kernel_rfl) (by exact fun _ _ _ h=>h) (Or.inl ⟨by rfl,?_⟩) (by assumption) ?_
         rotate_left
         ·(intro w hSw;(try dsimp only at hSw);go_simp;(try with_reducible rfl))
         (try simp only [Act.put,List.setIfInBounds_toArray,List.set_cons_zero,List.set_cons_succ])
         refine wpAnyH_take (i:=3) (v:=?_) (by simp only [List.getElem?_toArray,List.getElem?_cons_succ,List.getElem?_cons_zero];rfl) (by kernel_rfl) (by kernel_rfl) (by kernel_rfl) (by exact fun _ _ _ h=>h) (Or.inl ⟨by rfl,?_⟩) (by assumption) ?_
         rotate_left
         ·(intro w hSw;(try dsimp only at hSw);go_simp;(try with_reducible rfl))
         (try simp only [Act.put,List.setIfInBounds_toArray,List.set_cons_zero,List.set_cons_succ])
         refine wpAnyH_take (i:=4) (v:=?_) (by simp only [List.getElem?_toArray,List.getElem?_cons_succ,List.getElem?_cons_zero];rfl) (by kernel_rfl) (by kernel_rfl) (by kernel_rfl) (by exact fun _ _ _ h=>h) (Or.inl ⟨by rfl,?_⟩) (by assumption) ?_
         rotate_left
         ·(intro w hSw;(try dsimp only at hSw);go_simp;(try with_reducible rfl))
         (try simp only [Act.put,List.setIfInBounds_toArray,List.set_cons_zero,List.set_cons_succ])
         refine wpAnyH_ready (rs:=[1,5]) (by kernel_rfl) (by simp) (AllReadyH.cons (by simp only [List.getElem?_toArray,List.getElem?_cons_succ,List.getElem?_cons_zero];rfl) (fun K hK=>?_) (AllReadyH.cons (by simp only [List.getElem?_toArray,List.getElem?_cons_succ,List.getElem?_cons_zero];rfl) (fun K hK=>?_) AllReadyH.nil))
         ·go_simp
          refine hK.out _ _ (by assumption) (fun hHeld=>?_)
          clear hK K
          (try simp only [Act.put,List.setIfInBounds_toArray,List.set_cons_zero,List.set_cons_succ])
          refine wpAnyH_ready (rs:=[5]) (by kernel_rfl) (by simp) (AllReadyH.cons (by simp only [List.getElem?_toArray,List.getElem?_cons_succ,List.getElem?_cons_zero];rfl) (fun K hK=>?_) AllReadyH.nil)
          go_simp
          refine hK.out _ _ (HSK.out _ HSA.out) (fun hHeld=>?_)
          clear hK K
          (try simp only [Act.put,List.setIfInBounds_toArray,List.set_cons_zero,List.set_cons_succ])
          refine wpAnyH_ready (rs:=[6]) (by kernel_rfl) (by simp) (AllReadyH.cons (by simp only [List.getElem?_toArray,List.getElem?_cons_succ,List.getElem?_cons_zero];rfl) (fun K hK=>?_) AllReadyH.nil)
          refine step_appk el_prat rfl _ _ rfl w.heap.size Y ds.length cy (strs ds) ((w5.alloc (.cells #[.string (B y)] 46)).drew) w5.heap.size [.string (B y)] rfl HLD.out.dual rfl rfl HCN.out HON.out (by unfold maxLen;omega) (by omega) HSZ.out ?_
          intro A6 c6 w6 hown6 hb6 hk6
          have p6:=hk6.row HLD.out.row (HLD.out.dual.far HLD.out.row (by decide))
          have y3:=frz p6 3
          obtain ⟨e0,e1,e2,e3,e4,e5,e6,e7,e8,e9⟩:=cells10 p6
          refine hK.out _ _ (HSK.out w6 ((hk6.2 _ (Nat.lt_of_lt_of_le hlt4 (new_at w5 (.cells #[.string (B y)] 46)).1.size) HFA.out).trans HSA.out)) (fun hHeld5=>?_)
          clear hK K
          (try simp only [Act.put,List.setIfInBounds_toArray,List.set_cons_zero,List.set_cons_succ])
          refine wpAnyH_take (i:=7) (v:=?_) (by simp only [List.getElem?_toArray,List.getElem?_cons_succ,List.getElem?_cons_zero];rfl) (by kernel_rfl) (by kernel_rfl) (by kernel_rfl) (by exact fun _ _ _ h=>h) (Or.inl ⟨by rfl,?_⟩) (by assumption) ?_
          rotate_left
          ·(intro w hSw;(try dsimp only at hSw);go_simp;(try with_reducible rfl))
          (try simp only [Act.put,List.setIfInBounds_toArray,List.set_cons_zero,List.set_cons_succ])
          refine wpAnyH_ready (rs:=[8]) (by kernel_rfl) (by simp) (AllReadyH.cons (by simp only [List.getElem?_toArray,List.getElem?_cons_succ,List.getElem?_cons_zero];rfl) (fun K hK=>?_) AllReadyH.nil)
          go_simp
          refine hK.out _ _ (HSK.out _ ((Below.heap_setCell w6 ⟨nb,3,none⟩ (.slice A6 (ds.length+1) c6) _ HQN.out).trans ((hk6.2 _ (Nat.lt_of_lt_of_le hlt4 (new_at w5 (.cells #[.string (B y)] 46)).1.size) HFA.out).trans HSA.out))) (fun hHeld6=>?_)
          clear hK K
          (try simp only [Act.put,List.setIfInBounds_toArray,List.set_cons_zero,List.set_cons_succ])
          refine wpAnyH_done (by kernel_rfl) ?_ _
          have hkb:=(KpB.refl nb w6).store 3 (.slice A6 (ds.length+1) c6)
          have hle:(ds ++ [y]).length=ds.length+1:=by simp
          rw [snoc_strs] at hown6
          have HL6:=Lib.hid (show LeafB (w6.setCell ⟨nb,3,none⟩ (.slice A6 (ds.length+1) c6)) w.heap.size nb w.heap.size kd X cx cs A6 c6 (ds ++ [y]) from by
           refine ⟨by rw [hle];exact heap_put p6,(Below.heap_setCell w6 ⟨nb,3,none⟩ (.slice A6 (ds.length+1) c6) _ HG.out.2.2.1).trans (hk6.row HLD.out.res (HLD.out.dual.far HLD.out.res (by decide))),(HLD.out.cuts.keptA hk6 HLD.out.dual (by decide)).keptB hkb p6 (by decide),by rw [hle];exact hown6.keptB hkb p6 (by decide),HLD.out.cutsF,fun d hd=>?_⟩
           rcases List.mem_append.1 hd with h | h
           ·exact HLD.out.dualF d h
           ·rw [List.mem_singleton.1 h];have:=HYL.out;unfold maxLen;omega)
          have HR6:=Lib.hid (show RdL (w6.setCell ⟨nb,3,none⟩ (.slice A6 (ds.length+1) c6)) g A c L (n1+(jj+1)) from (HR5.out.below (new_at w5 (.cells #[.string (B y)] 46)).1.drew).base (hb6.setCell (p:=⟨nb,3,none⟩) HG.out.2.2.2 _) HGL.out HOLD.out)
          have HK6:=Lib.hid (((HK5.out.below (new_at w5 (.cells #[.string (B y)] 46)).1.drew).belowB hb6).out (b:=nb) HG.out.2.2.2 3 (.slice A6 (ds.length+1) c6))
          have HLE:=Lib.hid hle
          clear hkb hle
          go_wp2_with fail
          all_goals first
           |exact ⟨⟨jj+1,A6,c6,ds ++ [y],by go_num,by omega,.inr HMN.out.2,HR6.out,HMN.out.1,by rw [HLE.out,HDL.out],HL6.out,HK6.out⟩,by simp [intOf];omega⟩
           |(go_roundw
             case rel=>exact ⟨jj+1,A6,c6,ds ++ [y],by go_num,by omega,.inr HMN.out.2,HR6.out,HMN.out.1,by rw [HLE.out,HDL.out],HL6.out,HK6.out⟩
             case measure=>simp [intOf];omega)
         ·go_simp
          refine hK.out _ _ (HSK.out _ HSA.out) (fun hHeld=>?_)
          clear hK K
          (try simp only [Act.put,List.setIfInBounds_toArray,List.set_cons_zero,List.set_cons_succ])
          refine wpAnyH_ready (rs:=[1]) (by kernel_rfl) (by simp) (AllReadyH.cons (by simp only [List.getElem?_toArray,List.getElem?_cons_succ,List.getElem?_cons_zero];rfl) (fun K hK=>?_) AllReadyH.nil)
          go_simp
          refine hK.out _ _ (HSK.out _ HSA.out) (fun hHeld=>?_)
          clear hK K
          (try simp only [Act.put,List.setIfInBounds_toArray,List.set_cons_zero,List.set_cons_succ])
          refine wpAnyH_ready (rs:=[6]) (by kernel_rfl) (by simp) (AllReadyH.cons (by simp only [List.getElem?_toArray,List.getElem?_cons_succ,List.getElem?_cons_zero];rfl) (fun K hK=>?_) AllReadyH.nil)
          refine step_appk el_prat rfl _ _ rfl w.heap.size Y ds.length cy (strs ds) ((w5.alloc (.cells #[.string (B y)] 46)).drew) w5.heap.size [.string (B y)] rfl HLD.out.dual rfl rfl HCN.out HON.out (by unfold maxLen;omega) (by omega) HSZ.out ?_
          intro A6 c6 w6 hown6 hb6 hk6
          have p6:=hk6.row HLD.out.row (HLD.out.dual.far HLD.out.row (by decide))
          have y3:=frz p6 3
          obtain ⟨e0,e1,e2,e3,e4,e5,e6,e7,e8,e9⟩:=cells10 p6
          refine hK.out _ _ (HSK.out w6 ((hk6.2 _ (Nat.lt_of_lt_of_le hlt4 (new_at w5 (.cells #[.string (B y)] 46)).1.size) HFA.out).trans HSA.out)) (fun hHeld5=>?_)
          clear hK K
          (try simp only [Act.put,List.setIfInBounds_toArray,List.set_cons_zero,List.set_cons_succ])
          refine wpAnyH_take (i:=7) (v:=?_) (by simp only [List.getElem?_toArray,List.getElem?_cons_succ,List.getElem?_cons_zero];rfl) (by kernel_rfl) (by kernel_rfl) (by kernel_rfl) (by exact fun _ _ _ h=>h) (Or.inl ⟨by rfl,?_⟩) (by assumption) ?_
          rotate_left
          ·(intro w hSw;(try dsimp only at hSw);go_simp;(try with_reducible rfl))
          (try simp only [Act.put,List.setIfInBounds_toArray,List.set_cons_zero,List.set_cons_succ])
          refine wpAnyH_ready (rs:=[8]) (by kernel_rfl) (by simp) (AllReadyH.cons (by simp only [List.getElem?_toArray,List.getElem?_cons_succ,List.getElem?_cons_zero];rfl) (fun K hK=>?_) AllReadyH.nil)
          go_simp
          refine hK.out _ _ (HSK.out _ ((Below.heap_setCell w6 ⟨nb,3,none⟩ (.slice A6 (ds.length+1) c6) _ HQN.out).trans ((hk6.2 _ (Nat.lt_of_lt_of_le hlt4 (new_at w5 (.cells #[.string (B y)] 46)).1.size) HFA.out).trans HSA.out))) (fun hHeld6=>?_)
          clear hK K
          (try simp only [Act.put,List.setIfInBounds_toArray,List.set_cons_zero,List.set_cons_succ])
          refine wpAnyH_done (by kernel_rfl) ?_ _
          have hkb:=(KpB.refl nb w6).store 3 (.slice A6 (ds.length+1) c6)
          have hle:(ds ++ [y]).length=ds.length+1:=by simp
          rw [snoc_strs] at hown6
          have HL6:=Lib.hid (show LeafB (w6.setCell ⟨nb,3,none⟩ (.slice A6 (ds.length+1) c6)) w.heap.size nb w.heap.size kd X cx cs A6 c6 (ds ++ [y]) from by
           refine ⟨by rw [hle];exact heap_put p6,(Below.heap_setCell w6 ⟨nb,3,none⟩ (.slice A6 (ds.length+1) c6) _ HG.out.2.2.1).trans (hk6.row HLD.out.res (HLD.out.dual.far HLD.out.res (by decide))),(HLD.out.cuts.keptA hk6 HLD.out.dual (by decide)).keptB hkb p6 (by decide),by rw [hle];exact hown6.keptB hkb p6 (by decide),HLD.out.cutsF,fun d hd=>?_⟩
           rcases List.mem_append.1 hd with h | h
           ·exact HLD.out.dualF d h
           ·rw [List.mem_singleton.1 h];have:=HYL.out;unfold maxLen;omega)
          have HR6:=Lib.hid (show RdL (w6.setCell ⟨nb,3,none⟩ (.slice A6 (ds.length+1) c6)) g A c L (n1+(jj+1)) from (HR5.out.below (new_at w5 (.cells #[.string (B y)] 46)).1.drew).base (hb6.setCell (p:=⟨nb,3,none⟩) HG.out.2.2.2 _) HGL.out HOLD.out)
          have HK6:=Lib.hid (((HK5.out.below (new_at w5 (.cells #[.string (B y)] 46)).1.drew).belowB hb6).out (b:=nb) HG.out.2.2.2 3 (.slice A6 (ds.length+1) c6))
          have HLE:=Lib.hid hle
          clear hkb hle
          go_wp2_with fail
          all_goals first
           |exact ⟨⟨jj+1,A6,c6,ds ++ [y],by go_num,by omega,.inr HMN.out.2,HR6.out,HMN.out.1,by rw [HLE.out,HDL.out],HL6.out,HK6.out⟩,by simp [intOf];omega⟩
           |(go_roundw
             case rel=>exact ⟨jj+1,A6,c6,ds ++ [y],by go_num,by omega,.inr HMN.out.2,HR6.out,HMN.out.1,by rw [HLE.out,HDL.out],HL6.out,HK6.out⟩
             case measure=>simp [intOf];omega)
        |false =>
         have HG2:=Lib.hid (HG0.out (HD2.out.2.1 hrq))
         rw [hrq] at HRQ
         clear hrq HD2 HG0 HG1 HX
         go_wp2_with fail
         refine HRQ.out.mono ?_
         rintro e w5 ⟨rfl,hb5⟩
         have HK5:=Lib.hid (HK4.out.below hb5)
         have HL5:=Lib.hid (HL4.out.below hb5)
         have HR5:=Lib.hid (HR4.out.below hb5)
         clear hb5 HK4 HL4 HR4 HOW HRQ
         obtain ⟨a0,a1,a2,a3,a4,a5,a6,a7,a8,a9⟩:=cells10 HL5.out.row
         obtain ⟨r0,r1,r2,r3,r4,r5,r6,r7,r8,r9⟩:=cells10 HL5.out.res
         have z:=frz HL5.out.res
         have z0:=z 0
         have z1:=z 1
         have z2:=z 2
         have z3:=z 3
         have z4:=z 4
         have z5:=z 5
         have z6:=z 6
         have z7:=z 7
         have z8:=z 8
         have z9:=z 9
         clear z
         go_wp2_with fail
         (try simp only [Exit.inBlock,Exit.then])
         refine bodyPost_ret (res_row rfl (ld_node (pset10 HL5.out.res)) rfl rfl) rfl ?_
         obtain rfl:=HG2.out
         exact .fin (m:=⟨X,cx,Y,cy,⟨true,kd,cs,ds,0,0,0,0,0,0⟩⟩) (b:=false) rfl (fun h=>by cases h) HR5.out rfl HK5.out HL5.out.res (Nat.le_refl _) HGL.out HOLD.out
       ·have e2:(x == [100,117,97,108])=false:=by simpa using hxd
        have e2':(x != [100,117,97,108])=true:=by simpa using hxd
        have HG2:=Lib.hid (HG0.out (HD2.out.1 hxd))
        clear hxd HD2 HG0 HG1
        obtain ⟨a0,a1,a2,a3,a4,a5,a6,a7,a8,a9⟩:=cells10 HL4.out.row
        obtain ⟨r0,r1,r2,r3,r4,r5,r6,r7,r8,r9⟩:=cells10 HL4.out.res
        have z:=frz HL4.out.res
        have z0:=z 0
        have z1:=z 1
        have z2:=z 2
        have z3:=z 3
        have z4:=z 4
        have z5:=z 5
        have z6:=z 6
        have z7:=z 7
        have z8:=z 8
        have z9:=z 9
        clear z
        go_wp2_with fail
        (try simp only [Exit.inBlock,Exit.then])
        refine bodyPost_ret (res_row rfl (ld_node (pset10 HL4.out.res)) rfl rfl) rfl ?_
        obtain rfl:=HG2.out
        exact .fin (m:=⟨X,cx,Y,cy,⟨true,kd,cs,ds,0,0,0,0,0,0⟩⟩) (b:=false) rfl (fun h=>by cases h) HR4.out rfl HK4.out HL4.out.res (Nat.le_refl _) HGL.out HOLD.out
     ·have hlt1:¬ (jj:Int)<(kb:Int):=by omega
      have hke:jj=kb:=by omega
      subst hke
      have HG2:=Lib.hid (show R=(some ⟨true,kd,cs,ds,0,0,0,0,0,0⟩,L.drop (n1+jj),n1+jj) by
       rw [HR.out,HMANY.out,show jj - jj=0 by omega];rfl)
      clear HR HMANY
      obtain ⟨a0,a1,a2,a3,a4,a5,a6,a7,a8,a9⟩:=cells10 HLB.out.row
      obtain ⟨r0,r1,r2,r3,r4,r5,r6,r7,r8,r9⟩:=cells10 HLB.out.res
      have z:=frz HLB.out.res
      have z0:=z 0
      have z1:=z 1
      have z2:=z 2
      have z3:=z 3
      have z4:=z 4
      have z5:=z 5
      have z6:=z 6
      have z7:=z 7
      have z8:=z 8
      have z9:=z 9
      clear z
      go_wp2_with fail
      (try simp only [Exit.inBlock,Exit.then])
      refine bodyPost_ret (res_row rfl (ld_node (pset10 HLB.out.res)) rfl rfl) rfl ?_
      obtain rfl:=HG2.out
      exact .fin (m:=⟨X,cx,Y,cy,⟨true,kd,cs,ds,0,0,0,0,0,0⟩⟩) (b:=true) rfl (fun _=>⟨HLB.out.cuts,HLB.out.dual,HLB.out.dualF,hf,HLB.out.cutsF,fits_zero,fits_zero,fits_zero,fits_zero,fits_zero,fits_zero⟩) HRD.out rfl HKP.out HLB.out.res (Nat.le_refl _) HGL.out HOLD.out
end Go.Proofs.YtljekdpgjaahjaaGreatDoor

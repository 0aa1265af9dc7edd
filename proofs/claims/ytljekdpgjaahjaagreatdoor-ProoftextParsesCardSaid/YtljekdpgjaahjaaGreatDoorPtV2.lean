/- lorryref23.read. -/
import Derived.Test.YtljekdpgjaahjaaGreatDoorG61
import Derived.Test.YtljekdpgjaahjaaGreatDoorPtLf
import Derived.Test.YtljekdpgjaahjaaGreatDoorPtV1
namespace Go.Proofs.YtljekdpgjaahjaaGreatDoor
open Go.RowKit Num Txt Pf
set_option linter.unusedVariables false
attribute [local go_sem] B_size B_get B_toList B_mk B_extract B_append
theorem vis_short {s:Str} (h:s.length<2):visR s=none:=by
 match s,h with
 |[],_=>rfl
 |[c],_ =>
  show (if (c=43∨c=45)∧numE []=0 then some (numV [],c == 45) else none)=none
  rw [if_neg]
  rintro ⟨_,h⟩
  rw [(num_bad (s:=[]) (by decide)).1] at h
  exact absurd h (by decide)
 |_ :: _ :: _,h=>exact absurd h (by simp only [List.length_cons];omega)
theorem vis_at {s:Str} (h:0<s.length):visR s=if (at8 s 0=43∨at8 s 0=45)∧numE s.tail=0 then some (numV s.tail,at8 s 0 == 45) else none:=by
 cases s with
 |nil=>exact absurd h (by simp)
 |cons c t=>rfl
set_option maxHeartbeats 8000000 in
set_option maxRecDepth 100000 in
theorem rread_any (ws:List Str) (A:Option Addr) (c:Nat) (w:World) (hc:Cells w A (strs ws)) (hn:ws.length≤c∧c≤maxLen) (hl:∀ x ∈ ws,x.length≤100000) (hm:ws.length≤1000000) :
  Calls Tryz.prog 47 #[.slice A ws.length c] w (RouE (rouR ws) w):=by
 unfold maxLen at hn
 obtain ⟨n1,p1⟩:=new_at w rouZ
 by_cases h4:ws.length<4
 ·have h4i:(ws.length:Int)<4:=by omega
  have HR:=Lib.hid (show rouR ws=none by
   unfold rouR
   split
   ·simp only [List.length_cons] at h4;omega
   ·rfl)
  clear h4
  go_enter Tryz.func47,Tryz.ntmps47
  simp only [B_mk]
  go_wp2_with fail
  (try simp only [Exit.inBlock,Exit.then])
  refine bodyPost_ret (res_row rfl (ld_rou p1) rfl rfl) rfl ?_
  exact .bad HR.out n1
 ·have h4i:¬ (ws.length:Int)<4:=by omega
  obtain ⟨a,b,d,f,vs,hws0⟩:∃ a b d f vs,ws=a :: b :: d :: f :: vs:=by
   match ws,h4 with
   |a :: b :: d :: f :: vs,_=>exact ⟨a,b,d,f,vs,rfl⟩
   |[],h4=>exact absurd (by decide) h4
   |[_],h4=>exact absurd (by simp) h4
   |[_,_],h4=>exact absurd (by simp) h4
   |[_,_,_],h4=>exact absurd (by simp) h4
  subst hws0
  have hR:rouR (a :: b :: d :: f :: vs)=if a=routeW∧numE b=0∧numE d=0 then
   match restsR f,allR visR vs with
   |some r,some v=>some ⟨numV b,numV d,r,v⟩
   |_,_=>none
   else none:=rfl
  obtain ⟨ab,o,hA,hb,hx⟩:=hc (by simp [strs])
  subst hA
  have HX:=Lib.hid (fun (k:Nat) (hk:k<vs.length)=>(by
   have h1:=hx (4+k) (.string (B vs[k])) (by rw [Nat.add_comm 4 k];show ((a :: b :: d :: f :: vs).map fun p=>Value.string (B p))[k+4]? = _;simp only [List.map_cons,List.getElem?_cons_succ];rw [List.getElem?_map,List.getElem?_eq_getElem hk];rfl)
   exact h1:w.cell? ⟨ab,o+(4+k),none⟩=some (.string (B vs[k]))))
  have HXX:=Lib.hid (show ∀ w',Below w.heap.size w w'→w'.cell? ⟨ab,o,none⟩=some (.string (B a))∧w'.cell? ⟨ab,o+1,none⟩=some (.string (B b))∧w'.cell? ⟨ab,o+2,none⟩=some (.string (B d))∧w'.cell? ⟨ab,o+3,none⟩=some (.string (B f)) from fun w' h=>⟨(h.cell (p:=⟨ab,o,none⟩) hb).trans (hx 0 _ rfl),(h.cell (p:=⟨ab,o+1,none⟩) hb).trans (hx 1 _ rfl),(h.cell (p:=⟨ab,o+2,none⟩) hb).trans (hx 2 _ rfl),(h.cell (p:=⟨ab,o+3,none⟩) hb).trans (hx 3 _ rfl)⟩)
  have HL:=Lib.hid (fun x (h:x ∈ vs)=>hl x (by simp [h]))
  have HLB:=Lib.hid (hl b (by simp))
  have HLD:=Lib.hid (hl d (by simp))
  have HLF:=Lib.hid (hl f (by simp))
  have HBB:=Lib.hid hb
  have hvl:(a :: b :: d :: f :: vs).length=vs.length+4:=rfl
  generalize hws:a :: b :: d :: f :: vs=ws at *
  have HR:=Lib.hid hR
  have HLN:=Lib.hid hvl
  have hwp:3<ws.length:=by omega
  clear hws hR hx hl hc hvl h4
  obtain ⟨x0,x1,x2,x3⟩:=HXX.out _ n1
  by_cases hw:a=routeW
  ·have e1:(a == [114,111,117,116,101])=true:=by simpa using hw
   have HR:=Lib.hid (show rouR ws=if numE b=0∧numE d=0 then
    match restsR f,allR visR vs with
    |some r,some v=>some ⟨numV b,numV d,r,v⟩
    |_,_=>none
    else none from HR.out.trans (by
     by_cases h:numE b=0∧numE d=0
     ·rw [if_pos ⟨hw,h⟩,if_pos h]
     ·rw [if_neg fun x=>h x.2,if_neg h]))
   clear hw
   go_enter Tryz.func47,Tryz.ntmps47
   simp only [B_mk]
   go_upto_region 3 with fail
   generalize w.alloc rouZ=w1 at *
   have HB1:=Lib.hid n1
   have HQ1:=Lib.hid p1
   have HNB:=Lib.hid (rnumber_any b w1 (by have:=HLB.out;omega))
   have HND:=Lib.hid (rnumber_any d w1 (by have:=HLD.out;omega))
   have HNR:=Lib.hid (rrests_any f w1 HLF.out)
   have HFB:=Lib.hid (num_fits b)
   have HFD:=Lib.hid (num_fits d)
   clear n1 p1
   generalize numV b=nb at *
   generalize numV d=nd at *
   generalize hbz:numE b=eb at *
   generalize hdz:numE d=ed at *
   go_wp2_with fail
   refine HNB.out.mono ?_
   rintro e w' ⟨rfl,h⟩;obtain rfl:=h.symm
   go_wp2_with fail
   refine HND.out.mono ?_
   rintro e w' ⟨rfl,h⟩;obtain rfl:=h.symm
   go_wp2_with fail
   refine HNR.out.mono ?_
   rintro e w7 ⟨RA,rc,rl,rb2,rfl,hrf,hown,hb7⟩
   have HQ7:=Lib.hid (row_keep HQ1.out hb7)
   have HB7:=Lib.hid (below_lift HB1.out hb7)
   have HOW:=Lib.hid (show OwnR w7 w.heap.size 4 1 RA rl.length rc (boolsP rl) from (show OwnR w7 w1.heap.size 4 1 RA rl.length rc (boolsP rl) from hown).mono HB1.out.size)
   have HRF:=Lib.hid hrf
   generalize hrn:rl.length=rn at *
   have HRN:=Lib.hid hrn
   clear hb7 hown hrf hrn x0 x1 x2 x3 HNB HND HNR HQ1 HB1
   by_cases hok:rb2=true∧eb=0∧ed=0
   ·obtain ⟨rfl,hz1,hz2⟩:=hok
    have g1:(eb != 0)=false:=by rw [hz1];rfl
    have g2:(ed != 0)=false:=by rw [hz2];rfl
    have HR2:=Lib.hid (show ∀ v,allR visR vs=some v→rouR ws=some ⟨nb,nd,rl,v⟩ from fun v hv=>by
     rw [HR.out,if_pos ⟨hz1,hz2⟩,HRF.out,hv];rfl)
    have HR0:=Lib.hid (show allR visR vs=none→rouR ws=none from fun hv=>by
     rw [HR.out,if_pos ⟨hz1,hz2⟩,HRF.out,hv];rfl)
    clear hz1 hz2 hbz hdz HR HRF
    obtain ⟨n8,p8⟩:=new_at w7 (.cells #[.int .i64 nb,.int .i64 nd,.slice RA rn rc,.slice none 0 0] 50)
    go_upto_region 9 with fail
    generalize w7.alloc (.cells #[.int .i64 nb,.int .i64 nd,.slice RA rn rc,.slice none 0 0] 50)=w8 at *
    have HP8:=Lib.hid p8
    have HQ8:=Lib.hid (row_keep HQ7.out n8)
    have HB8:=Lib.hid (below_lift HB7.out n8)
    have HO8:=Lib.hid (HOW.out.below n8)
    have HRB:=Lib.hid (show w.heap.size≠w7.heap.size∧w.heap.size≤w7.heap.size∧ab≠w7.heap.size from ⟨by have:=lt_heap HQ7.out;omega,HB7.out.size,by have:=HB7.out.size;have:=HBB.out;omega⟩)
    clear n8 p8 HQ7 HB7 HOW
    generalize w7.heap.size=rb at *
    have hwb:ws.length≤1000000:=hm
    go_wp2_with fail
    go_loopw [11,12,13] (fun i _ _ wr=>∃ (k:Nat) (X:Option Addr) (cx:Nat) (xs:List (Int × Bool)),4+k≤ws.length∧i=.int .i64 ((4+k:Nat):Int)∧xs.length=k∧allR visR (vs.take k)=some xs∧(∀ v ∈ xs,fits v.1)∧wr.heap[rb]? = some (.cells #[.int .i64 nb,.int .i64 nd,.slice RA rn rc,.slice X k cx] 50)∧wr.heap[w.heap.size]? = some rouZ∧OwnR wr w.heap.size 4 1 RA rn rc (boolsP rl)∧OwnR wr w.heap.size 133 2 X k cx (xs.flatMap visC)∧Below w.heap.size w wr) (fun i _ _ _=>ws.length - (intOf i).toNat)
    case atStart=>exact ⟨0,none,0,[],by omega,rfl,rfl,rfl,fun v hv=>absurd hv (by simp),HP8.out,HQ8.out,HO8.out,OwnR.nil _ _ _ _,HB8.out⟩
    case round =>
     clear HP8 HQ8 HO8 HB8
     obtain ⟨k,X,cx,xs,hk,rfl,hkl,hall,hfx,hp,hq,hor,hov,hbel⟩:=hrel
     have HKL:=Lib.hid hkl
     have HALL:=Lib.hid hall
     have HFX:=Lib.hid hfx
     have HP:=Lib.hid hp
     have HQ:=Lib.hid hq
     have HOR:=Lib.hid hor
     have HOV:=Lib.hid hov
     have HBL:=Lib.hid hbel
     clear hkl hall hfx hp hq hor hov
     by_cases hlt:4+k<ws.length
     ·have hlt1:((4+k:Nat):Int)<(ws.length:Int):=by omega
      have hltv:k<vs.length:=by have:=HLN.out;omega
      have x1:wr.cell? ⟨ab,o+(4+k),none⟩=some (.string (B vs[k])):=(hbel.cell (p:=⟨ab,o+(4+k),none⟩) HBB.out).trans (HX.out k hltv)
      have HTK:=Lib.hid (fun v (h:visR vs[k]=some v)=>allR_takeG hltv h HALL.out)
      have HBD:=Lib.hid (fun (h:visR vs[k]=none)=>allR_badG hltv h)
      have HSL:=Lib.hid (HL.out _ (List.getElem_mem hltv))
      generalize vs[k]=s at *
      clear hltv hbel
      by_cases hs2:s.length<2
      ·have hs2i:(s.length:Int)<2:=by omega
       have HT:=Lib.hid (HR0.out (HBD.out (vis_short hs2)))
       clear hs2
       obtain ⟨d0,d1,d2,d3⟩:=cells4 HQ.out
       have z0:=frz HQ.out 0
       have z1:=frz HQ.out 1
       have z2:=frz HQ.out 2
       have z3:=frz HQ.out 3
       go_wp2_with fail
       (try simp only [Exit.inBlock,Exit.then])
       refine bodyPost_ret (res_row rfl (ld_rou (pset4 HQ.out)) rfl rfl) rfl ?_
       exact .bad HT.out (below4 HBL.out (Nat.le_refl w.heap.size))
      ·have hs2i:¬ (s.length:Int)<2:=by omega
       have hsp:0<s.length:=by omega
       have HVA:=Lib.hid (vis_at hsp)
       have hst:s.tail.length≤1000000:=by have:=HSL.out;rw [List.length_tail];omega
       have HNM:=Lib.hid (rnumber_any s.tail wr hst)
       have hsl1:(1:Int)≤(s.length:Int):=by omega
       have q1:(0:Int)≤4+(k:Int):=by omega
       have q2:(4+(k:Int)).toNat=4+k:=by omega
       clear hs2 hst
       generalize hcc:at8 s 0=d0_ at *
       by_cases hsg:d0_=43∨d0_=45
       ·have hg:((d0_.toNat:Int) != 43)=false∨(((d0_.toNat:Int) != 43)=true∧((d0_.toNat:Int) != 45)=false):=by
         rcases hsg with h | h
         ·left;rw [h];rfl
         ·right;rw [h];exact ⟨rfl,rfl⟩
        have hneg:(d0_ == 45)=decide ((d0_.toNat:Int)=45):=by
         rcases hsg with h | h <;> (rw [h];rfl)
        have HNG:=Lib.hid hneg
        clear hneg
        by_cases hz:numE s.tail=0
        ·have hvr:visR s=some (numV s.tail,d0_ == 45):=by rw [HVA.out,if_pos ⟨hsg,hz⟩]
         have e3:(numE s.tail != 0)=false:=by rw [hz];rfl
         have HT:=Lib.hid (HTK.out _ hvr)
         have HVF:=Lib.hid (num_fits s.tail)
         generalize hvd:(d0_ == 45)=vd at *
         have hvd2:((d0_.toNat:Int) == 45)=vd:=by rw [HNG.out];rfl
         have HNG2:=Lib.hid hvd2
         clear hz hvr HVA HTK HBD HNG hvd hsg
         generalize numV s.tail=nv at *
         generalize numE s.tail=ne at *
         rcases hg with g1 | ⟨g1,g2⟩
         all_goals
          go_upto_region 14 with fail
          go_wp2_with fail
          refine HNM.out.mono ?_
          rintro e w' ⟨rfl,h⟩;obtain rfl:=h.symm
          have n8:=(new_at wr (.cells #[.int .i64 nv,.bool vd] 133)).1.drew
          have HLD:=Lib.hid (OwnR.below HOV.out n8)
          have HPD:=Lib.hid (row_keep HP.out n8)
          have HQD:=Lib.hid (row_keep HQ.out n8)
          have HORD:=Lib.hid (OwnR.below HOR.out n8)
          have HBD8:=Lib.hid (below_lift HBL.out n8)
          have HCN:=Lib.hid (show ∀ j u,[Value.int .i64 nv,.bool vd][j]? = some u→((wr.alloc (.cells #[.int .i64 nv,.bool vd] 133)).drew).cell? ⟨wr.heap.size,j,none⟩=some u from cells_newP)
          have HSZ:=Lib.hid (show w.heap.size≤((wr.alloc (.cells #[.int .i64 nv,.bool vd] 133)).drew).heap.size from HBD8.out.size)
          have HON:=Lib.hid (show ∀ u ∈ [Value.int .i64 nv,.bool vd],u.oneCell'=true from by intro u hu;simp at hu;rcases hu with rfl | rfl <;> rfl)
          have hablt:ab<wr.heap.size:=Nat.lt_of_lt_of_le HBB.out HBL.out.size
          have HSK:=Lib.hid (show ∀ w',w'.heap[ab]? = wr.heap[ab]? → w'.cell? ⟨ab,o+(4+k),none⟩=some (.string (B s)) from fun w' hb=>(World.cell?_of_block (w:=wr) (w':=w') (a:=⟨ab,o+(4+k),none⟩) hb).trans x1)
          have HSA:=Lib.hid (show ((wr.alloc (.cells #[.int .i64 nv,.bool vd] 133)).drew).heap[ab]? = wr.heap[ab]? from n8.block _ hablt)
          have HFA:=Lib.hid (show ∀ off sp,X≠some ⟨ab,off,sp⟩ from fun off sp hX=>by
           rcases HOV.out.form with hf | ⟨g',hf⟩
           ·rw [hf] at hX;cases hX
           ·have h1:=hf
            rw [hX] at h1
            injection h1 with h1;injection h1 with h1 h2 h3
            subst h1
            have h4:=HOV.out
            rw [hf] at h4
            have:=h4.typ.1
            have:=HBB.out
            omega)
          have HAB:=Lib.hid hablt
          have hS0:=HSK.out wr.drew rfl
          obtain ⟨_,_,_,g3⟩:=cells4 HPD.out
          obtain ⟨_,_,_,c3⟩:=cells4 HP.out
          clear n8 hablt
          go_upto_region 17 with fail
          refine wp_region_held_drew (S:=fun w'=>w'.cell? ⟨ab,o+(4+k),none⟩=some (.string (B s))) (by kernel_rfl) hS0 (fun hHeld=>?_)
          refine wpAnyH_take (i:=0) (v:=?_) (by simp only [List.getElem?_toArray,List.getElem?_cons_zero];rfl) (by kernel_rfl) (by kernel_rfl) (by kernel_rfl) (by exact fun _ _ _ h=>h) (Or.inl ⟨by rfl,?_⟩) (by assumption) ?_
          rotate_left
          ·(intro w hSw;(try dsimp only at hSw);go_simp;(try with_reducible rfl))
          (try simp only [Act.put,List.setIfInBounds_toArray,List.set_cons_zero,List.set_cons_succ])
          refine wpAnyH_take (i:=2) (v:=?_) (by simp only [List.getElem?_toArray,List.getElem?_cons_succ,List.getElem?_cons_zero];rfl) (by kernel_rfl) (by kernel_rfl) (by kernel_rfl) (by exact fun _ _ _ h=>h) (Or.inl ⟨by rfl,?_⟩) (by assumption) ?_
          rotate_left
          ·(intro w hSw;(try dsimp only at hSw);go_simp;(try with_reducible rfl))
          (try simp only [Act.put,List.setIfInBounds_toArray,List.set_cons_zero,List.set_cons_succ])
          refine wpAnyH_take (i:=3) (v:=?_) (by simp only [List.getElem?_toArray,List.getElem?_cons_succ,List.getElem?_cons_zero];rfl) (by kernel_rfl) (by kernel_rfl) (by kernel_rfl) (by exact fun _ _ _ h=>h) (Or.inl ⟨by rfl,?_⟩) (by assumption) ?_
          rotate_left
          ·(intro w hSw;(try dsimp only at hSw);go_simp;(try with_reducible rfl))
          (try simp only [Act.put,List.setIfInBounds_toArray,List.set_cons_zero,List.set_cons_succ])
          refine wpAnyH_take (i:=4) (v:=?_) (by simp only [List.getElem?_toArray,List.getElem?_cons_succ,List.getElem?_cons_zero];rfl) (by kernel_rfl) (by kernel_rfl) (by kernel_rfl) (by exact fun _ _ _ h=>h) (Or.inl ⟨by rfl,?_⟩) (by assumption) ?_
          rotate_left
          ·(intro w hSw;(try dsimp only at hSw);go_simp;(try with_reducible rfl))
          (try simp only [Act.put,List.setIfInBounds_toArray,List.set_cons_zero,List.set_cons_succ])
          refine wpAnyH_take (i:=5) (v:=?_) (by simp only [List.getElem?_toArray,List.getElem?_cons_succ,List.getElem?_cons_zero];rfl) (by kernel_rfl) (by kernel_rfl) (by kernel_rfl) (by exact fun _ _ _ h=>h) (Or.inl ⟨by rfl,?_⟩) (by assumption) ?_
          rotate_left
          ·(intro w hSw;(try dsimp only at hSw);go_simp;(try with_reducible rfl))
          (try simp only [Act.put,List.setIfInBounds_toArray,List.set_cons_zero,List.set_cons_succ])
          refine wpAnyH_take (i:=6) (v:=?_) (by simp only [List.getElem?_toArray,List.getElem?_cons_succ,List.getElem?_cons_zero];rfl) (by kernel_rfl) (by kernel_rfl) (by kernel_rfl) (by exact fun _ _ _ h=>h) (Or.inl ⟨by rfl,?_⟩) (by assumption) ?_
          rotate_left
          ·(intro w hSw;(try dsimp only at hSw);go_simp;(try with_reducible rfl))
          (try simp only [Act.put,List.setIfInBounds_toArray,List.set_cons_zero,List.set_cons_succ])
          refine wpAnyH_take (i:=7) (v:=?_) (by simp only [List.getElem?_toArray,List.getElem?_cons_succ,List.getElem?_cons_zero];rfl) (by kernel_rfl) (by kernel_rfl) (by kernel_rfl) (by exact fun _ _ _ h=>h) (Or.inl ⟨by rfl,?_⟩) (by assumption) ?_
          rotate_left
          ·(intro w hSw;(try dsimp only at hSw);go_simp;(try with_reducible rfl))
          (try simp only [Act.put,List.setIfInBounds_toArray,List.set_cons_zero,List.set_cons_succ])
          refine wpAnyH_take (i:=8) (v:=?_) (by simp only [List.getElem?_toArray,List.getElem?_cons_succ,List.getElem?_cons_zero];rfl) (by kernel_rfl) (by kernel_rfl) (by kernel_rfl) (by exact fun _ _ _ h=>h) (Or.inl ⟨by rfl,?_⟩) (by assumption) ?_
          rotate_left
          ·(intro w hSw;(try dsimp only at hSw);go_simp;(try with_reducible rfl))
          (try simp only [Act.put,List.setIfInBounds_toArray,List.set_cons_zero,List.set_cons_succ])
          refine wpAnyH_take (i:=9) (v:=?_) (by simp only [List.getElem?_toArray,List.getElem?_cons_succ,List.getElem?_cons_zero];rfl) (by kernel_rfl) (by kernel_rfl) (by kernel_rfl) (by exact fun _ _ _ h=>h) (Or.inl ⟨by rfl,?_⟩) (by assumption) ?_
          rotate_left
          ·(intro w hSw;(try dsimp only at hSw);go_simp;(try with_reducible rfl))
          (try simp only [Act.put,List.setIfInBounds_toArray,List.set_cons_zero,List.set_cons_succ])
          refine wpAnyH_ready (rs:=[1,10]) (by kernel_rfl) (by simp) (AllReadyH.cons (by simp only [List.getElem?_toArray,List.getElem?_cons_succ,List.getElem?_cons_zero];rfl) (fun K hK=>?_) (AllReadyH.cons (by simp only [List.getElem?_toArray,List.getElem?_cons_succ,List.getElem?_cons_zero];rfl) (fun K hK=>?_) AllReadyH.nil))
          ·go_simp
           refine hK.out _ _ (by assumption) (fun hHeld=>?_)
           clear hK K
           (try simp only [Act.put,List.setIfInBounds_toArray,List.set_cons_zero,List.set_cons_succ])
           refine wpAnyH_ready (rs:=[10]) (by kernel_rfl) (by simp) (AllReadyH.cons (by simp only [List.getElem?_toArray,List.getElem?_cons_succ,List.getElem?_cons_zero];rfl) (fun K hK=>?_) AllReadyH.nil)
           go_simp
           refine hK.out _ _ (HSK.out _ HSA.out) (fun hHeld=>?_)
           clear hK K
           (try simp only [Act.put,List.setIfInBounds_toArray,List.set_cons_zero,List.set_cons_succ])
           refine wpAnyH_ready (rs:=[11]) (by kernel_rfl) (by simp) (AllReadyH.cons (by simp only [List.getElem?_toArray,List.getElem?_cons_succ,List.getElem?_cons_zero];rfl) (fun K hK=>?_) AllReadyH.nil)
           refine step_appk el_pvis rfl _ _ rfl w.heap.size X k cx (xs.flatMap visC) ((wr.alloc (.cells #[.int .i64 nv,.bool vd] 133)).drew) wr.heap.size [.int .i64 nv,.bool vd] rfl HLD.out rfl rfl HCN.out HON.out (by unfold maxLen;omega) (by omega) HSZ.out ?_
           intro A5 c5 w5 hown5 hb5 hk5
           have p5:=hk5.row HPD.out (HLD.out.far HPD.out (by decide))
           have y3:=frz p5 3
           obtain ⟨e0,e1,e2,e5⟩:=cells4 p5
           refine hK.out _ _ (HSK.out w5 ((hk5.2 _ (Nat.lt_of_lt_of_le HAB.out (new_at wr (.cells #[.int .i64 nv,.bool vd] 133)).1.size) HFA.out).trans HSA.out)) (fun hHeld5=>?_)
           clear hK K
           (try simp only [Act.put,List.setIfInBounds_toArray,List.set_cons_zero,List.set_cons_succ])
           refine wpAnyH_take (i:=12) (v:=?_) (by simp only [List.getElem?_toArray,List.getElem?_cons_succ,List.getElem?_cons_zero];rfl) (by kernel_rfl) (by kernel_rfl) (by kernel_rfl) (by exact fun _ _ _ h=>h) (Or.inl ⟨by rfl,?_⟩) (by assumption) ?_
           rotate_left
           ·(intro w hSw;(try dsimp only at hSw);go_simp;(try with_reducible rfl))
           (try simp only [Act.put,List.setIfInBounds_toArray,List.set_cons_zero,List.set_cons_succ])
           refine wpAnyH_ready (rs:=[13]) (by kernel_rfl) (by simp) (AllReadyH.cons (by simp only [List.getElem?_toArray,List.getElem?_cons_succ,List.getElem?_cons_zero];rfl) (fun K hK=>?_) AllReadyH.nil)
           go_simp
           refine hK.out _ _ (HSK.out _ ((Below.heap_setCell w5 ⟨rb,3,none⟩ (.slice A5 (k+1) c5) _ HRB.out.2.2).trans ((hk5.2 _ (Nat.lt_of_lt_of_le HAB.out (new_at wr (.cells #[.int .i64 nv,.bool vd] 133)).1.size) HFA.out).trans HSA.out))) (fun hHeld6=>?_)
           clear hK K
           (try simp only [Act.put,List.setIfInBounds_toArray,List.set_cons_zero,List.set_cons_succ])
           refine wpAnyH_done (by kernel_rfl) ?_ _
           have hkb:=(KpB.refl rb w5).store 3 (.slice A5 (k+1) c5)
           have hle:(xs ++ [(nv,vd)]).length=k+1:=by rw [List.length_append,HKL.out];rfl
           have hxs:xs.flatMap visC ++ [Value.int .i64 nv,.bool vd]=(xs ++ [(nv,vd)]).flatMap visC:=flat_snoc visC xs (nv,vd)
           rw [hxs] at hown5
           have hp6:(w5.setCell ⟨rb,3,none⟩ (.slice A5 (k+1) c5)).heap[rb]? = some (.cells #[.int .i64 nb,.int .i64 nd,.slice RA rn rc,.slice A5 (k+1) c5] 50):=heap_put p5
           have hq6:=(Below.heap_setCell w5 ⟨rb,3,none⟩ (.slice A5 (k+1) c5) _ HRB.out.1).trans (hk5.row HQD.out (HLD.out.far HQD.out (by decide)))
           have ho6:=OwnR.keptB (OwnR.keptA HORD.out hk5 HLD.out (by decide)) hkb p5 (by decide)
           have hv6:=OwnR.keptB hown5 hkb p5 (by decide)
           have hb6:=(HBD8.out.trans hb5).setCell (p:=⟨rb,3,none⟩) HRB.out.2.1 (.slice A5 (k+1) c5)
           have hf6:∀ v ∈ xs ++ [(nv,vd)],fits v.1:=fun v hv=>by
            rcases List.mem_append.1 hv with h | h
            ·exact HFX.out v h
            ·rw [List.mem_singleton.1 h];exact HVF.out
           have H6:=Lib.hid (⟨hp6,hq6,ho6,hv6,hb6⟩:_∧_∧_∧_∧_)
           clear hkb hp6 hq6 ho6 hv6 hb6 hxs
           go_wp2_with fail
           all_goals first
            |exact ⟨⟨k+1,A5,c5,xs ++ [(nv,vd)],by omega,by go_num,hle,HT.out,hf6,H6.out.1,H6.out.2.1,H6.out.2.2.1,H6.out.2.2.2.1,H6.out.2.2.2.2⟩,by simp [intOf];omega⟩
            |(go_roundw
              case rel=>exact ⟨k+1,A5,c5,xs ++ [(nv,vd)],by omega,by go_num,hle,HT.out,hf6,H6.out.1,H6.out.2.1,H6.out.2.2.1,H6.out.2.2.2.1,H6.out.2.2.2.2⟩
              case measure=>simp [intOf];omega)
          ·go_simp
           refine hK.out _ _ (HSK.out _ HSA.out) (fun hHeld=>?_)
           clear hK K
           (try simp only [Act.put,List.setIfInBounds_toArray,List.set_cons_zero,List.set_cons_succ])
           refine wpAnyH_ready (rs:=[1]) (by kernel_rfl) (by simp) (AllReadyH.cons (by simp only [List.getElem?_toArray,List.getElem?_cons_succ,List.getElem?_cons_zero];rfl) (fun K hK=>?_) AllReadyH.nil)
           go_simp
           refine hK.out _ _ (HSK.out _ HSA.out) (fun hHeld=>?_)
           clear hK K
           (try simp only [Act.put,List.setIfInBounds_toArray,List.set_cons_zero,List.set_cons_succ])
           refine wpAnyH_ready (rs:=[11]) (by kernel_rfl) (by simp) (AllReadyH.cons (by simp only [List.getElem?_toArray,List.getElem?_cons_succ,List.getElem?_cons_zero];rfl) (fun K hK=>?_) AllReadyH.nil)
           refine step_appk el_pvis rfl _ _ rfl w.heap.size X k cx (xs.flatMap visC) ((wr.alloc (.cells #[.int .i64 nv,.bool vd] 133)).drew) wr.heap.size [.int .i64 nv,.bool vd] rfl HLD.out rfl rfl HCN.out HON.out (by unfold maxLen;omega) (by omega) HSZ.out ?_
           intro A5 c5 w5 hown5 hb5 hk5
           have p5:=hk5.row HPD.out (HLD.out.far HPD.out (by decide))
           have y3:=frz p5 3
           obtain ⟨e0,e1,e2,e5⟩:=cells4 p5
           refine hK.out _ _ (HSK.out w5 ((hk5.2 _ (Nat.lt_of_lt_of_le HAB.out (new_at wr (.cells #[.int .i64 nv,.bool vd] 133)).1.size) HFA.out).trans HSA.out)) (fun hHeld5=>?_)
           clear hK K
           (try simp only [Act.put,List.setIfInBounds_toArray,List.set_cons_zero,List.set_cons_succ])
           refine wpAnyH_take (i:=12) (v:=?_) (by simp only [List.getElem?_toArray,List.getElem?_cons_succ,List.getElem?_cons_zero];rfl) (by kernel_rfl) (by kernel_rfl) (by kernel_rfl) (by exact fun _ _ _ h=>h) (Or.inl ⟨by rfl,?_⟩) (by assumption) ?_
           rotate_left
           ·(intro w hSw;(try dsimp only at hSw);go_simp;(try with_reducible rfl))
           (try simp only [Act.put,List.setIfInBounds_toArray,List.set_cons_zero,List.set_cons_succ])
           refine wpAnyH_ready (rs:=[13]) (by kernel_rfl) (by simp) (AllReadyH.cons (by simp only [List.getElem?_toArray,List.getElem?_cons_succ,List.getElem?_cons_zero];rfl) (fun K hK=>?_) AllReadyH.nil)
           go_simp
           refine hK.out _ _ (HSK.out _ ((Below.heap_setCell w5 ⟨rb,3,none⟩ (.slice A5 (k+1) c5) _ HRB.out.2.2).trans ((hk5.2 _ (Nat.lt_of_lt_of_le HAB.out (new_at wr (.cells #[.int .i64 nv,.bool vd] 133)).1.size) HFA.out).trans HSA.out))) (fun hHeld6=>?_)
           clear hK K
           (try simp only [Act.put,List.setIfInBounds_toArray,List.set_cons_zero,List.set_cons_succ])
           refine wpAnyH_done (by kernel_rfl) ?_ _
           have hkb:=(KpB.refl rb w5).store 3 (.slice A5 (k+1) c5)
           have hle:(xs ++ [(nv,vd)]).length=k+1:=by rw [List.length_append,HKL.out];rfl
           have hxs:xs.flatMap visC ++ [Value.int .i64 nv,.bool vd]=(xs ++ [(nv,vd)]).flatMap visC:=flat_snoc visC xs (nv,vd)
           rw [hxs] at hown5
           have hp6:(w5.setCell ⟨rb,3,none⟩ (.slice A5 (k+1) c5)).heap[rb]? = some (.cells #[.int .i64 nb,.int .i64 nd,.slice RA rn rc,.slice A5 (k+1) c5] 50):=heap_put p5
           have hq6:=(Below.heap_setCell w5 ⟨rb,3,none⟩ (.slice A5 (k+1) c5) _ HRB.out.1).trans (hk5.row HQD.out (HLD.out.far HQD.out (by decide)))
           have ho6:=OwnR.keptB (OwnR.keptA HORD.out hk5 HLD.out (by decide)) hkb p5 (by decide)
           have hv6:=OwnR.keptB hown5 hkb p5 (by decide)
           have hb6:=(HBD8.out.trans hb5).setCell (p:=⟨rb,3,none⟩) HRB.out.2.1 (.slice A5 (k+1) c5)
           have hf6:∀ v ∈ xs ++ [(nv,vd)],fits v.1:=fun v hv=>by
            rcases List.mem_append.1 hv with h | h
            ·exact HFX.out v h
            ·rw [List.mem_singleton.1 h];exact HVF.out
           have H6:=Lib.hid (⟨hp6,hq6,ho6,hv6,hb6⟩:_∧_∧_∧_∧_)
           clear hkb hp6 hq6 ho6 hv6 hb6 hxs
           go_wp2_with fail
           all_goals first
            |exact ⟨⟨k+1,A5,c5,xs ++ [(nv,vd)],by omega,by go_num,hle,HT.out,hf6,H6.out.1,H6.out.2.1,H6.out.2.2.1,H6.out.2.2.2.1,H6.out.2.2.2.2⟩,by simp [intOf];omega⟩
            |(go_roundw
              case rel=>exact ⟨k+1,A5,c5,xs ++ [(nv,vd)],by omega,by go_num,hle,HT.out,hf6,H6.out.1,H6.out.2.1,H6.out.2.2.1,H6.out.2.2.2.1,H6.out.2.2.2.2⟩
              case measure=>simp [intOf];omega)
        ·have HT:=Lib.hid (HR0.out (HBD.out (by rw [HVA.out,if_neg fun h=>hz h.2])))
         have e3:(numE s.tail != 0)=true:=by simpa using hz
         clear hz HVA HTK HBD hsg
         generalize numV s.tail=nv at *
         generalize numE s.tail=ne at *
         obtain ⟨d0,d1,d2,d3⟩:=cells4 HQ.out
         have z0:=frz HQ.out 0
         have z1:=frz HQ.out 1
         have z2:=frz HQ.out 2
         have z3:=frz HQ.out 3
         rcases hg with g1 | ⟨g1,g2⟩
         all_goals
          go_wp2_with fail
          refine HNM.out.mono ?_
          rintro e w' ⟨rfl,h⟩;obtain rfl:=h.symm
          go_wp2_with fail
          (try simp only [Exit.inBlock,Exit.then])
          refine bodyPost_ret (res_row rfl (ld_rou (pset4 HQ.out)) rfl rfl) rfl ?_
          exact .bad HT.out (below4 HBL.out (Nat.le_refl w.heap.size))
       ·have HT:=Lib.hid (HR0.out (HBD.out (by rw [HVA.out,if_neg fun h=>hsg h.1])))
        have g1:((d0_.toNat:Int) != 43)=true:=by have:=u8_not (fun h=>hsg (.inl h));simp at this ⊢;omega
        have g2:((d0_.toNat:Int) != 45)=true:=by have:=u8_not (fun h=>hsg (.inr h));simp at this ⊢;omega
        clear hsg HVA HTK HBD
        obtain ⟨d0,d1,d2,d3⟩:=cells4 HQ.out
        have z0:=frz HQ.out 0
        have z1:=frz HQ.out 1
        have z2:=frz HQ.out 2
        have z3:=frz HQ.out 3
        go_wp2_with fail
        (try simp only [Exit.inBlock,Exit.then])
        refine bodyPost_ret (res_row rfl (ld_rou (pset4 HQ.out)) rfl rfl) rfl ?_
        exact .bad HT.out (below4 HBL.out (Nat.le_refl w.heap.size))
     ·have hlt1:¬ ((4+k:Nat):Int)<(ws.length:Int):=by omega
      have HT:=Lib.hid (HR2.out xs (by
       have h1:=HALL.out
       rw [List.take_of_length_le (by have:=HLN.out;omega)] at h1
       exact h1))
      obtain ⟨c0,c1,c2,c3⟩:=cells4 HP.out
      obtain ⟨d0,d1,d2,d3⟩:=cells4 HQ.out
      have z0:=frz HQ.out 0
      have z1:=frz HQ.out 1
      have z2:=frz HQ.out 2
      have z3:=frz HQ.out 3
      have HB9:=Lib.hid (below4 (a:=.int .i64 nb) (b:=.int .i64 nd) (c:=.slice RA rn rc) (d:=.slice X k cx) hbel (Nat.le_refl w.heap.size))
      go_wp2_with fail
      (try simp only [Exit.inBlock,Exit.then])
      refine bodyPost_ret (res_row rfl (ld_rou (pset4 HQ.out)) rfl rfl) rfl ?_
      have hor:=keep_set4 (a:=.int .i64 nb) (b:=.int .i64 nd) (c:=.slice RA rn rc) (d:=.slice X k cx) HOR.out HQ.out (by decide)
      have hov:=keep_set4 (a:=.int .i64 nb) (b:=.int .i64 nd) (c:=.slice RA rn rc) (d:=.slice X k cx) HOV.out HQ.out (by decide)
      refine .good HT.out HRN.out HKL.out ⟨?_,?_,HFB.out,HFD.out,HFX.out⟩ HB9.out
      ·show OwnR _ w.heap.size 4 1 RA rl.length rc (boolsP rl)
       rw [HRN.out];exact hor
      ·show OwnR _ w.heap.size 133 2 X xs.length cx (xs.flatMap visC)
       rw [HKL.out];exact hov
   ·have HT:=Lib.hid (show rouR ws=none by
     rw [HR.out]
     by_cases h:eb=0∧ed=0
     ·rw [if_pos h,HRF.out,if_neg fun x=>hok ⟨x,h⟩]
     ·rw [if_neg h])
    obtain ⟨d0,d1,d2,d3⟩:=cells4 HQ7.out
    have z0:=frz HQ7.out 0
    have z1:=frz HQ7.out 1
    have z2:=frz HQ7.out 2
    have z3:=frz HQ7.out 3
    have hcs:¬ eb=0∨(eb=0∧¬ ed=0)∨(eb=0∧ed=0∧rb2=false):=by
     cases rb2 <;> by_cases h1:eb=0 <;> by_cases h2:ed=0 <;> simp_all
    clear hok HR HRF hbz hdz
    rcases hcs with h1 | ⟨h1,h2⟩ | ⟨h1,h2,rfl⟩
    ·have g1:(eb != 0)=true:=by simpa using h1
     clear h1
     go_wp2_with fail
     (try simp only [Exit.inBlock,Exit.then])
     refine bodyPost_ret (res_row rfl (ld_rou (pset4 HQ7.out)) rfl rfl) rfl ?_
     exact .bad HT.out (below4 HB7.out (Nat.le_refl w.heap.size))
    ·have g1:(eb != 0)=false:=by simpa using h1
     have g2:(ed != 0)=true:=by simpa using h2
     clear h1 h2
     go_wp2_with fail
     (try simp only [Exit.inBlock,Exit.then])
     refine bodyPost_ret (res_row rfl (ld_rou (pset4 HQ7.out)) rfl rfl) rfl ?_
     exact .bad HT.out (below4 HB7.out (Nat.le_refl w.heap.size))
    ·have g1:(eb != 0)=false:=by simpa using h1
     have g2:(ed != 0)=false:=by simpa using h2
     clear h1 h2
     go_wp2_with fail
     (try simp only [Exit.inBlock,Exit.then])
     refine bodyPost_ret (res_row rfl (ld_rou (pset4 HQ7.out)) rfl rfl) rfl ?_
     exact .bad HT.out (below4 HB7.out (Nat.le_refl w.heap.size))
  ·have e1:(a == [114,111,117,116,101])=false:=by simpa using hw
   have HR:=Lib.hid (show rouR ws=none by rw [HR.out,if_neg fun h=>hw h.1])
   clear hw
   go_enter Tryz.func47,Tryz.ntmps47
   simp only [B_mk]
   go_wp2_with fail
   (try simp only [Exit.inBlock,Exit.then])
   refine bodyPost_ret (res_row rfl (ld_rou p1) rfl rfl) rfl ?_
   exact .bad HR.out n1
end Go.Proofs.YtljekdpgjaahjaaGreatDoor

/- plan.readRoute. -/
import Derived.Test.YtljekdpgjaahjaaGreatDoorG60
namespace Go.Proofs.YtljekdpgjaahjaaGreatDoor
open Go.RowKit Num Txt Pf
set_option linter.unusedVariables false
attribute [local go_sem] B_size B_get B_toList B_mk B_extract B_append
theorem allR_takeG {α β} {f:α→Option β} {l:List α} {k:Nat} (h:k<l.length) {v:β} (hn:f l[k]=some v) {ks:List β} (ha:allR f (l.take k)=some ks):allR f (l.take (k+1))=some (ks ++ [v]):=by
 induction l generalizing k ks with
 |nil=>exact absurd h (by simp)
 |cons a l ih =>
  cases k with
  |zero =>
   rw [List.take_zero] at ha
   have hk:ks=[]:=by have:some []=some ks:=ha;injection this with this;exact this.symm
   subst hk
   have hn:f a=some v:=hn
   show allR f (a :: l.take 0)=some ([] ++ [v])
   rw [List.take_zero,allR,hn];rfl
  |succ k =>
   rw [List.take_succ_cons,allR] at ha ⊢
   cases hr:f a with
   |none=>rw [hr] at ha;cases ha
   |some v =>
    rw [hr] at ha
    simp only at ha ⊢
    cases h2:allR f (l.take k) with
    |none=>rw [h2] at ha;cases ha
    |some vs =>
     rw [h2] at ha
     simp only at ha
     injection ha with ha
     have h3:=ih (k:=k) (by simpa using h) hn h2
     rw [h3,← ha];rfl
theorem allR_badG {α β} {f:α→Option β} {l:List α} {k:Nat} (h:k<l.length) (hn:f l[k]=none):allR f l=none:=by
 induction l generalizing k with
 |nil=>exact absurd h (by simp)
 |cons a l ih =>
  cases k with
  |zero=>have hn:f a=none:=hn;rw [allR,hn]
  |succ k =>
   rw [allR]
   cases hr:f a with
   |none=>rfl
   |some v=>simp only;rw [ih (k:=k) (by simpa using h) hn]
def RouE (o:Option RouV) (w:World) (e:Ending) (w':World):Prop:=∃ (m:RouM) (b:Bool),e=.returned (.tuple #[rouA m,.bool b])∧o=(if b then some m.r else none)∧RouO w' w.heap.size m∧Below w.heap.size w w'
def rou0:RouM:=⟨none,0,none,0,⟨0,0,[],[]⟩⟩
theorem rou0_at (w:World) (Bs:Nat):RouO w Bs rou0:=⟨OwnR.nil _ _ _ _,OwnR.nil _ _ _ _,by decide,by decide,fun v hv=>absurd hv (by simp [rou0])⟩
theorem RouE.bad {o:Option RouV} {w w':World} (h1:o=none) (h3:Below w.heap.size w w'):RouE o w (.returned (.tuple #[.agg #[.int .i64 0,.int .i64 0,.slice none 0 0,.slice none 0 0],.bool false])) w':=⟨rou0,false,rfl,h1,rou0_at _ _,h3⟩
theorem RouE.good {o:Option RouV} {w w':World} {k s:Int} {A C:Option Addr} {n j ca cc:Nat} {r:List Bool} {v:List (Int × Bool)} (h1:o=some ⟨k,s,r,v⟩) (hn:r.length=n) (hj:v.length=j) (h2:RouO w' w.heap.size ⟨A,ca,C,cc,⟨k,s,r,v⟩⟩) (h3:Below w.heap.size w w') :
  RouE o w (.returned (.tuple #[.agg #[.int .i64 k,.int .i64 s,.slice A n ca,.slice C j cc],.bool true])) w':=by subst hn hj;exact ⟨⟨A,ca,C,cc,⟨k,s,r,v⟩⟩,true,rfl,h1,h2,h3⟩
abbrev rouZ:Obj:=.cells #[.int .i64 0,.int .i64 0,.slice none 0 0,.slice none 0 0] 50
theorem below4 {w0 w:World} {g Bs:Nat} {a b c d:Value} (h:Below Bs w0 w) (hg:Bs≤g):Below Bs w0 ((((w.setCell ⟨g,0,none⟩ a).setCell ⟨g,1,none⟩ b).setCell ⟨g,2,none⟩ c).setCell ⟨g,3,none⟩ d):=(((h.setCell hg _).setCell hg _).setCell hg _).setCell hg _
theorem keep_set4 {w:World} {g Bs sz n cx:Nat} {X:Option Addr} {xs:List Value} {e t:TypeId} {x0 x1 x2 x3 a b c d:Value} (h:OwnR w Bs e sz X n cx xs) (hg:w.heap[g]? = some (.cells #[x0,x1,x2,x3] t)) (he:e≠t) :
  OwnR ((((w.setCell ⟨g,0,none⟩ a).setCell ⟨g,1,none⟩ b).setCell ⟨g,2,none⟩ c).setCell ⟨g,3,none⟩ d) Bs e sz X n cx xs:=h.keptB (((((KpB.refl g w).store 0 a).store 1 b).store 2 c).store 3 d) hg he
set_option maxHeartbeats 4000000 in
set_option maxRecDepth 100000 in
theorem readRoute_any (ws:List Str) (A:Option Addr) (c:Nat) (w:World) (hc:Cells w A (strs ws)) (hn:ws.length≤c∧c≤maxLen) (hl:∀ x ∈ ws,x.length≤100000) (hm:ws.length≤1000000) (he:ErrV w) :
  Calls Tryz.prog 104 #[.slice A ws.length c] w (RouE (rouR ws) w):=by
 unfold maxLen at hn
 obtain ⟨n1,p1⟩:=new_at w rouZ
 by_cases h4:ws.length<4
 ·have h4i:(ws.length:Int)<4:=by omega
  have HR:=Lib.hid (show rouR ws=none by
   unfold rouR
   split
   ·simp only [List.length_cons] at h4;omega
   ·rfl)
  clear h4
  go_enter Tryz.func104,Tryz.ntmps104
  simp only [B_mk]
  go_wp2_with fail
  (try simp only [Exit.inBlock,Exit.then])
  refine bodyPost_ret (res_row rfl (ld_rou p1) rfl rfl) rfl ?_
  exact .bad HR.out n1
 ·have h4i:¬ (ws.length:Int)<4:=by omega
  obtain ⟨a,b,d,f,vs,hws0⟩:∃ a b d f vs,ws=a :: b :: d :: f :: vs:=by
   match ws,h4 with
   |a :: b :: d :: f :: vs,_=>exact ⟨a,b,d,f,vs,rfl⟩
   |[],h4=>exact absurd (by decide) h4
   |[_],h4=>exact absurd (by simp) h4
   |[_,_],h4=>exact absurd (by simp) h4
   |[_,_,_],h4=>exact absurd (by simp) h4
  subst hws0
  have hR:rouR (a :: b :: d :: f :: vs)=if a=routeW∧numE b=0∧numE d=0 then
   match restsR f,allR visR vs with
   |some r,some v=>some ⟨numV b,numV d,r,v⟩
   |_,_=>none
   else none:=rfl
  obtain ⟨ab,o,hA,hb,hx⟩:=hc (by simp [strs])
  subst hA
  have HX:=Lib.hid (fun (k:Nat) (hk:k<vs.length)=>(by
   have h1:=hx (k+4) (.string (B vs[k])) (by show ((a :: b :: d :: f :: vs).map fun p=>Value.string (B p))[k+4]? = _;simp only [List.map_cons,List.getElem?_cons_succ];rw [List.getElem?_map,List.getElem?_eq_getElem hk];rfl)
   rw [show o+(k+4)=o+4+k by omega] at h1
   exact h1:w.cell? ⟨ab,o+4+k,none⟩=some (.string (B vs[k]))))
  have HXX:=Lib.hid (show ∀ w',Below w.heap.size w w'→w'.cell? ⟨ab,o,none⟩=some (.string (B a))∧w'.cell? ⟨ab,o+1,none⟩=some (.string (B b))∧w'.cell? ⟨ab,o+2,none⟩=some (.string (B d))∧w'.cell? ⟨ab,o+3,none⟩=some (.string (B f)) from fun w' h=>⟨(h.cell (p:=⟨ab,o,none⟩) hb).trans (hx 0 _ rfl),(h.cell (p:=⟨ab,o+1,none⟩) hb).trans (hx 1 _ rfl),(h.cell (p:=⟨ab,o+2,none⟩) hb).trans (hx 2 _ rfl),(h.cell (p:=⟨ab,o+3,none⟩) hb).trans (hx 3 _ rfl)⟩)
  have HL:=Lib.hid (fun x (h:x ∈ vs)=>hl x (by simp [h]))
  have HLB:=Lib.hid (hl b (by simp))
  have HLD:=Lib.hid (hl d (by simp))
  have HLF:=Lib.hid (hl f (by simp))
  have HE:=Lib.hid he
  have HBB:=Lib.hid hb
  have hvl:(a :: b :: d :: f :: vs).length=vs.length+4:=rfl
  generalize hws:a :: b :: d :: f :: vs=ws at *
  have HR:=Lib.hid hR
  have HLN:=Lib.hid hvl
  have hwp:3<ws.length:=by omega
  clear hws hR hx hl hc he hvl h4
  by_cases hw:a=routeW
  ·have e1:(a == [114,111,117,116,101])=true:=by simpa using hw
   have HR:=Lib.hid (show rouR ws=if numE b=0∧numE d=0 then
    match restsR f,allR visR vs with
    |some r,some v=>some ⟨numV b,numV d,r,v⟩
    |_,_=>none
    else none from HR.out.trans (by
     by_cases h:numE b=0∧numE d=0
     ·rw [if_pos ⟨hw,h⟩,if_pos h]
     ·rw [if_neg fun x=>h x.2,if_neg h]))
   clear hw
   obtain ⟨x0,_,_,_⟩:=HXX.out _ n1
   go_enter Tryz.func104,Tryz.ntmps104
   simp only [B_mk]
   go_upto_region 5 with fail
   obtain ⟨n2,p2⟩:=new_at (w.alloc rouZ) rouZ
   have hs1:(w.alloc rouZ).heap.size=w.heap.size+1:=Array.size_push ..
   have q2:=row_keep p1 n2
   have hb2:=below_lift n1 n2
   rw [hs1] at p2
   have hrb:w.heap.size≠w.heap.size+1∧w.heap.size≤w.heap.size+1:=by omega
   generalize (w.alloc rouZ).alloc rouZ=w2 at *
   generalize w.heap.size+1=rb at *
   have HRB:=Lib.hid hrb
   clear n1 n2 p1 hs1 x0 hrb
   obtain ⟨_,x1,_,_⟩:=HXX.out _ hb2
   have HNB:=Lib.hid (number_any b w2 (by have:=HLB.out;omega) (HE.out.below hb2))
   go_wp2_with fail
   refine HNB.out.mono ?_
   rintro e w3 ⟨rfl,hb3⟩
   have p3:=row_keep p2 hb3
   have q3:=row_keep q2 hb3
   have hb3:=below_lift hb2 hb3
   have HP4:=Lib.hid (show (w3.setCell ⟨rb,0,none⟩ (.int .i64 (numV b))).heap[rb]? = some (.cells #[.int .i64 (numV b),.int .i64 0,.slice none 0 0,.slice none 0 0] 50) from heap_put p3)
   have HQ4:=Lib.hid ((Below.heap_setCell w3 ⟨rb,0,none⟩ (.int .i64 (numV b)) _ HRB.out.1).trans q3)
   have HB4:=Lib.hid (hb3.setCell (p:=⟨rb,0,none⟩) HRB.out.2 (.int .i64 (numV b)))
   obtain ⟨c0,c1,c2,c3⟩:=cells4 p3
   have z0:=frz p3 0
   clear p2 q2 hb2 q3 p3 hb3 HNB x1
   have HFB:=Lib.hid (num_fits b)
   generalize numV b=nb at *
   go_upto_region 6 with fail
   generalize w3.setCell ⟨rb,0,none⟩ (.int .i64 nb)=w4 at *
   clear c0 c1 c2 c3 z0
   obtain ⟨_,_,x2,_⟩:=HXX.out _ HB4.out
   have HNB:=Lib.hid (number_any d w4 (by have:=HLD.out;omega) (HE.out.below HB4.out))
   go_wp2_with fail
   refine HNB.out.mono ?_
   rintro e w5 ⟨rfl,hb5⟩
   have p5:=row_keep HP4.out hb5
   have q5:=row_keep HQ4.out hb5
   have hb5:=below_lift HB4.out hb5
   have HP6:=Lib.hid (show (w5.setCell ⟨rb,1,none⟩ (.int .i64 (numV d))).heap[rb]? = some (.cells #[.int .i64 nb,.int .i64 (numV d),.slice none 0 0,.slice none 0 0] 50) from heap_put p5)
   have HQ6:=Lib.hid ((Below.heap_setCell w5 ⟨rb,1,none⟩ (.int .i64 (numV d)) _ HRB.out.1).trans q5)
   have HB6:=Lib.hid (hb5.setCell (p:=⟨rb,1,none⟩) HRB.out.2 (.int .i64 (numV d)))
   obtain ⟨c0,c1,c2,c3⟩:=cells4 p5
   have z1:=frz p5 1
   clear HP4 HQ4 HB4 q5 p5 hb5 HNB x2
   have HFD:=Lib.hid (num_fits d)
   generalize numV d=nd at *
   go_upto_region 8 with fail
   generalize w5.setCell ⟨rb,1,none⟩ (.int .i64 nd)=w6 at *
   clear c0 c1 c2 c3 z1
   obtain ⟨_,_,_,x3⟩:=HXX.out _ HB6.out
   have HNB:=Lib.hid (readRests_any f w6 HLF.out)
   go_wp2_with fail
   refine HNB.out.mono ?_
   rintro e w7 ⟨RA,rc,rl,rb2,rfl,hrf,hown,hb7⟩
   have p7:=row_keep HP6.out hb7
   have q7:=row_keep HQ6.out hb7
   have hb7':=below_lift HB6.out hb7
   have HP8:=Lib.hid (show (w7.setCell ⟨rb,2,none⟩ (.slice RA rl.length rc)).heap[rb]? = some (.cells #[.int .i64 nb,.int .i64 nd,.slice RA rl.length rc,.slice none 0 0] 50) from heap_put p7)
   have HQ8:=Lib.hid ((Below.heap_setCell w7 ⟨rb,2,none⟩ (.slice RA rl.length rc) _ HRB.out.1).trans q7)
   have HB8:=Lib.hid (hb7'.setCell (p:=⟨rb,2,none⟩) HRB.out.2 (.slice RA rl.length rc))
   have HOW:=Lib.hid (show OwnR (w7.setCell ⟨rb,2,none⟩ (.slice RA rl.length rc)) w.heap.size 4 1 RA rl.length rc (boolsP rl) from (OwnR.keptB (show OwnR w7 w6.heap.size 4 1 RA rl.length rc (boolsP rl) from hown) ((KpB.refl rb w7).store 2 _) p7 (by decide)).mono HB6.out.size)
   obtain ⟨c0,c1,c2,c3⟩:=cells4 p7
   have z2:=frz p7 2
   have HRF:=Lib.hid hrf
   have HRLl:=Lib.hid (show ∃ rn,rl.length=rn from ⟨_,rfl⟩)
   generalize hrn:rl.length=rn at *
   have HRN:=Lib.hid hrn
   clear HP6 HQ6 HB6 q7 p7 hb7 hb7' hown HNB x3 hrf hrn HRLl
   go_upto_region 9 with fail
   generalize w7.setCell ⟨rb,2,none⟩ (.slice RA rn rc)=w8 at *
   clear c0 c1 c2 c3 z2
   by_cases hok:rb2=true∧numE b=0∧numE d=0
   ·obtain ⟨rfl,hbz,hdz⟩:=hok
    have g1:(numE b != 0)=false:=by rw [hbz];rfl
    have g2:(numE d != 0)=false:=by rw [hdz];rfl
    have hcc:4<c∨c=4:=by omega
    have HR2:=Lib.hid (show ∀ v,allR visR vs=some v→rouR ws=some ⟨nb,nd,rl,v⟩ from fun v hv=>by
     rw [HR.out,if_pos ⟨hbz,hdz⟩,HRF.out,hv];rfl)
    have HR0:=Lib.hid (show allR visR vs=none→rouR ws=none from fun hv=>by
     rw [HR.out,if_pos ⟨hbz,hdz⟩,HRF.out,hv];rfl)
    clear hbz hdz HR HRF
    generalize numE b=eb at *
    generalize numE d=ed at *
    rcases hcc with hc4 | hc4
    ·go_upto_region 12 with fail
     have hwl:ws.length - 4=vs.length:=by have:=HLN.out;omega
     have hwb:ws.length - 4≤1000000:=by omega
     generalize ws.length - 4=wm at *
     have HWL:=Lib.hid hwl
     clear hwl
     go_loopw [9,10,11,60] (fun _ _ _ i wr=>∃ (k:Nat) (X:Option Addr) (cx:Nat) (xs:List (Int × Bool)),k≤wm∧i=.int .i64 k∧xs.length=k∧allR visR (vs.take k)=some xs∧(∀ v ∈ xs,fits v.1)∧wr.heap[rb]? = some (.cells #[.int .i64 nb,.int .i64 nd,.slice RA rn rc,.slice X k cx] 50)∧wr.heap[w.heap.size]? = some rouZ∧OwnR wr w.heap.size 4 1 RA rn rc (boolsP rl)∧OwnR wr w.heap.size 133 2 X k cx (xs.flatMap visC)∧Below w.heap.size w wr) (fun _ _ _ i _=>wm - (intOf i).toNat)
     case atStart=>exact ⟨0,none,0,[],by omega,rfl,rfl,rfl,fun v hv=>absurd hv (by simp),HP8.out,HQ8.out,HOW.out,OwnR.nil _ _ _ _,HB8.out⟩
     case round =>
      clear HP8 HQ8 HOW HB8
      obtain ⟨k,X,cx,xs,hk,rfl,hkl,hall,hfx,hp,hq,hor,hov,hbel⟩:=hrel
      have HKL:=Lib.hid hkl
      have HALL:=Lib.hid hall
      have HFX:=Lib.hid hfx
      have HP:=Lib.hid hp
      have HQ:=Lib.hid hq
      have HOR:=Lib.hid hor
      have HOV:=Lib.hid hov
      clear hkl hall hfx hp hq hor hov
      by_cases hlt:k<wm
      ·have hlt1:(k:Int)<(wm:Int):=by omega
       have hltv:k<vs.length:=by rw [← HWL.out];exact hlt
       have x1:wr.cell? ⟨ab,o+4+k,none⟩=some (.string (B vs[k])):=(hbel.cell (p:=⟨ab,o+4+k,none⟩) HBB.out).trans (HX.out k hltv)
       have HTK:=Lib.hid (fun v (h:visR vs[k]=some v)=>allR_takeG hltv h HALL.out)
       have HBD:=Lib.hid (fun (h:visR vs[k]=none)=>allR_badG hltv h)
       have HNC:=Lib.hid (readVisit_any vs[k] wr (HL.out _ (List.getElem_mem hltv)) (HE.out.below hbel))
       generalize vs[k]=s at *
       clear hltv
       go_wp2_with fail
       refine HNC.out.mono ?_
       rintro e w2 ⟨v,vb,rfl,hvr,hvf,hb2⟩
       obtain ⟨vo,vd⟩:=v
       have HVR:=Lib.hid hvr
       obtain ⟨n3,p3⟩:=new_at w2 (.cells #[.int .i64 vo,.bool vd] 133)
       have hb3:=below_lift hb2 n3
       clear hvr hb2 HNC
       go_upto_region 15 with fail
       generalize w2.alloc (.cells #[.int .i64 vo,.bool vd] 133)=w3 at *
       have HP3:=Lib.hid (row_keep HP.out hb3)
       have HQ3:=Lib.hid (row_keep HQ.out hb3)
       have HOR3:=Lib.hid (HOR.out.below hb3)
       have HOV3:=Lib.hid (HOV.out.below hb3)
       have HB3:=Lib.hid (below_lift hbel hb3)
       obtain ⟨y0,y1⟩:=cells2 p3
       clear n3 p3 hb3 HP HQ HOR HOV hbel
       cases vb with
       |true =>
        have HT:=Lib.hid (HTK.out _ HVR.out)
        obtain ⟨c0,c1,c2,c3⟩:=cells4 HP3.out
        have hsz:=HB3.out.size
        clear HTK HBD HVR
        go_wp2_with (at_builtin;refine wp_appk el_pvis rfl _ _ rfl w.heap.size _ _ _ (xs.flatMap visC) w3 #[.int .i64 vo,.bool vd] rfl HOV3.out rfl rfl (by intro u hu;simp at hu;rcases hu with rfl | rfl <;> rfl) (by unfold maxLen;omega) (by omega) hsz ?_;intro A' c' w4 hown4 hb4 hk4;have p4:=hk4.row HP3.out (HOV3.out.far HP3.out (by decide));have z3:=frz p4 3;obtain ⟨e0,e1,e2,e3⟩:=cells4 p4)
        have hp5:(w4.setCell ⟨rb,3,none⟩ (.slice A' (k+1) c')).heap[rb]? = some (.cells #[.int .i64 nb,.int .i64 nd,.slice RA rn rc,.slice A' (k+1) c'] 50):=heap_put p4
        have hq5:=(Below.heap_setCell w4 ⟨rb,3,none⟩ (.slice A' (k+1) c') _ HRB.out.1).trans (hk4.row HQ3.out (HOV3.out.far HQ3.out (by decide)))
        have ho5:=OwnR.keptB (OwnR.keptA HOR3.out hk4 HOV3.out (by decide)) ((KpB.refl rb w4).store 3 (.slice A' (k+1) c')) p4 (by decide)
        have hv5:=OwnR.keptB hown4 ((KpB.refl rb w4).store 3 (.slice A' (k+1) c')) p4 (by decide)
        have hb5:=(HB3.out.trans hb4).setCell (p:=⟨rb,3,none⟩) HRB.out.2 (.slice A' (k+1) c')
        have hxs:xs.flatMap visC ++ #[Value.int .i64 vo,Value.bool vd].toList=(xs ++ [(vo,vd)]).flatMap visC:=flat_snoc visC xs (vo,vd)
        rw [hxs] at hv5
        have hf5:∀ v ∈ xs ++ [(vo,vd)],fits v.1:=fun v hv=>by
         rcases List.mem_append.1 hv with h | h
         ·exact HFX.out v h
         ·rw [List.mem_singleton.1 h];exact hvf
        first
         |exact ⟨⟨k+1,A',c',xs ++ [(vo,vd)],by omega,by go_num,by rw [List.length_append,HKL.out];rfl,HT.out,hf5,hp5,hq5,ho5,hv5,hb5⟩,by simp [intOf];omega⟩
         |(go_roundw
           case rel=>exact ⟨k+1,A',c',xs ++ [(vo,vd)],by omega,by go_num,by rw [List.length_append,HKL.out];rfl,HT.out,hf5,hp5,hq5,ho5,hv5,hb5⟩
           case measure=>simp [intOf];omega)
       |false =>
        have HT:=Lib.hid (HR0.out (HBD.out HVR.out))
        obtain ⟨c0,c1,c2,c3⟩:=cells4 HQ3.out
        have z0:=frz HQ3.out 0
        have z1:=frz HQ3.out 1
        have z2:=frz HQ3.out 2
        have z3:=frz HQ3.out 3
        have HB9:=Lib.hid (below4 (a:=.int .i64 0) (b:=.int .i64 0) (c:=.slice none 0 0) (d:=.slice none 0 0) HB3.out (Nat.le_refl w.heap.size))
        clear HTK HBD HVR
        go_wp2_with fail
        (try simp only [Exit.inBlock,Exit.then])
        refine bodyPost_ret (res_row rfl (ld_rou (pset4 HQ3.out)) rfl rfl) rfl ?_
        exact .bad HT.out HB9.out
      ·have hlt1:¬ (k:Int)<(wm:Int):=by omega
       have HT:=Lib.hid (HR2.out xs (by
        have h1:=HALL.out
        rw [List.take_of_length_le (by rw [← HWL.out];omega)] at h1
        exact h1))
       obtain ⟨c0,c1,c2,c3⟩:=cells4 HP.out
       obtain ⟨d0,d1,d2,d3⟩:=cells4 HQ.out
       have z0:=frz HQ.out 0
       have z1:=frz HQ.out 1
       have z2:=frz HQ.out 2
       have z3:=frz HQ.out 3
       have HB9:=Lib.hid (below4 (a:=.int .i64 nb) (b:=.int .i64 nd) (c:=.slice RA rn rc) (d:=.slice X k cx) hbel (Nat.le_refl w.heap.size))
       go_wp2_with fail
       (try simp only [Exit.inBlock,Exit.then])
       refine bodyPost_ret (res_row rfl (ld_rou (pset4 HQ.out)) rfl rfl) rfl ?_
       have hor:=keep_set4 (a:=.int .i64 nb) (b:=.int .i64 nd) (c:=.slice RA rn rc) (d:=.slice X k cx) HOR.out HQ.out (by decide)
       have hov:=keep_set4 (a:=.int .i64 nb) (b:=.int .i64 nd) (c:=.slice RA rn rc) (d:=.slice X k cx) HOV.out HQ.out (by decide)
       refine .good HT.out HRN.out HKL.out ⟨?_,?_,HFB.out,HFD.out,HFX.out⟩ HB9.out
       ·show OwnR _ w.heap.size 4 1 RA rl.length rc (boolsP rl)
        rw [HRN.out];exact hor
       ·show OwnR _ w.heap.size 133 2 X xs.length cx (xs.flatMap visC)
        rw [HKL.out];exact hov
    ·have hv0:vs=[]:=List.length_eq_zero_iff.1 (by have:=HLN.out;omega)
     have HT:=Lib.hid (HR2.out [] (by rw [hv0];rfl))
     have hw1:ws.length=4:=by omega
     clear hv0
     subst hc4
     go_upto_region 12 with fail
     go_loopw [9,10,11,60] (fun _ _ _ i wr=>i=.int .i64 0∧wr=w8) (fun _ _ _ _ _=>0)
     case atStart=>exact ⟨rfl,by trivial⟩
     case round =>
      obtain ⟨rfl,rfl⟩:=hrel
      obtain ⟨c0,c1,c2,c3⟩:=cells4 HP8.out
      obtain ⟨d0,d1,d2,d3⟩:=cells4 HQ8.out
      have z0:=frz HQ8.out 0
      have z1:=frz HQ8.out 1
      have z2:=frz HQ8.out 2
      have z3:=frz HQ8.out 3
      go_wp2_with fail
      (try simp only [Exit.inBlock,Exit.then])
      refine bodyPost_ret (res_row rfl (ld_rou (pset4 HQ8.out)) rfl rfl) rfl ?_
      have HB9:=below4 (a:=.int .i64 nb) (b:=.int .i64 nd) (c:=.slice RA rn rc) (d:=.slice none 0 0) HB8.out (Nat.le_refl w.heap.size)
      have hor:=keep_set4 (a:=.int .i64 nb) (b:=.int .i64 nd) (c:=.slice RA rn rc) (d:=.slice none 0 0) HOW.out HQ8.out (by decide)
      refine .good HT.out HRN.out rfl ⟨?_,OwnR.nil _ _ _ _,HFB.out,HFD.out,fun v hv=>absurd hv (by simp)⟩ HB9
      show OwnR _ w.heap.size 4 1 RA rl.length rc (boolsP rl)
      rw [HRN.out];exact hor
   ·have HR0:=Lib.hid (show rouR ws=none by
     rw [HR.out]
     by_cases h:numE b=0∧numE d=0
     ·rw [if_pos h,HRF.out,if_neg fun x=>hok ⟨x,h⟩]
     ·rw [if_neg h])
    obtain ⟨c0,c1,c2,c3⟩:=cells4 HQ8.out
    have z0:=frz HQ8.out 0
    have z1:=frz HQ8.out 1
    have z2:=frz HQ8.out 2
    have z3:=frz HQ8.out 3
    have hcs:rb2=false∨(rb2=true∧¬ numE b=0)∨(rb2=true∧numE b=0∧¬ numE d=0):=by
     cases rb2 <;> by_cases h1:numE b=0 <;> by_cases h2:numE d=0 <;> simp_all
    have HB9:=Lib.hid (below4 (a:=.int .i64 0) (b:=.int .i64 0) (c:=.slice none 0 0) (d:=.slice none 0 0) HB8.out (Nat.le_refl w.heap.size))
    clear hok HR HRF
    rcases hcs with rfl | ⟨rfl,h1⟩ | ⟨rfl,h1,h2⟩
    ·go_wp2_with fail
     (try simp only [Exit.inBlock,Exit.then])
     refine bodyPost_ret (res_row rfl (ld_rou (pset4 HQ8.out)) rfl rfl) rfl ?_
     exact .bad HR0.out HB9.out
    ·have g1:(numE b != 0)=true:=by simpa using h1
     clear h1
     generalize numE b=eb at *
     go_wp2_with fail
     (try simp only [Exit.inBlock,Exit.then])
     refine bodyPost_ret (res_row rfl (ld_rou (pset4 HQ8.out)) rfl rfl) rfl ?_
     exact .bad HR0.out HB9.out
    ·have g1:(numE b != 0)=false:=by simpa using h1
     have g2:(numE d != 0)=true:=by simpa using h2
     clear h1 h2
     generalize numE b=eb at *
     generalize numE d=ed at *
     go_wp2_with fail
     (try simp only [Exit.inBlock,Exit.then])
     refine bodyPost_ret (res_row rfl (ld_rou (pset4 HQ8.out)) rfl rfl) rfl ?_
     exact .bad HR0.out HB9.out
  ·have e1:(a == [114,111,117,116,101])=false:=by simpa using hw
   have HR:=Lib.hid (show rouR ws=none by rw [HR.out,if_neg fun h=>hw h.1])
   clear hw
   obtain ⟨x0,_,_,_⟩:=HXX.out _ n1
   go_enter Tryz.func104,Tryz.ntmps104
   simp only [B_mk]
   go_wp2_with fail
   (try simp only [Exit.inBlock,Exit.then])
   refine bodyPost_ret (res_row rfl (ld_rou p1) rfl rfl) rfl ?_
   exact .bad HR.out n1
abbrev planZ:Obj:=.cells #[.slice none 0 0,.slice none 0 0] 25
theorem RouO.keptB {w w':World} {Bs g:Nat} {e:TypeId} {l:Array Value} {z:Nat × Nat} {m:RouM} (h:RouO w Bs m) (hk:KpB g w w') (hg:w.heap[g]? = some (.cells l e z)) (h1:4≠e) (h2:133≠e):RouO w' Bs m:=⟨h.rests.keptB hk hg h1,h.vis.keptB hk hg h2,h.kind,h.start,h.visF⟩
structure PlanB (w:World) (Bs pb rb:Nat) (A:Option Addr) (ca:Nat) (acc:List RouM):Prop where
 row:w.heap[pb]? = some (.cells #[.slice A acc.length ca,.slice none 0 0] 25)
 res:w.heap[rb]? = some planZ
 own:OwnR w Bs 50 4 A acc.length ca (acc.flatMap RouM.cells)
 each:∀ m ∈ acc,RouO w Bs m
theorem PlanB.below {w w':World} {Bs pb rb:Nat} {A:Option Addr} {ca:Nat} {acc:List RouM} (h:PlanB w Bs pb rb A ca acc) (hb:Below w.heap.size w w'):PlanB w' Bs pb rb A ca acc:=⟨row_keep h.row hb,row_keep h.res hb,h.own.below hb,fun m hm=>(h.each m hm).below hb⟩
structure PlanO (w:World) (Bs:Nat) (m:PlanM):Prop where
 rous:OwnR w Bs 50 4 m.A m.rs.length m.ca (m.rs.flatMap RouM.cells)
 each:∀ r ∈ m.rs,RouO w Bs r
 uns:OwnR w Bs 3 1 m.C m.us.length m.cc (ints m.us)
 unsF:∀ u ∈ m.us,fits u
section
variable {w w':World} {Bs Bs' g sz n c:Nat} {e:TypeId} {l:Array Value} {z:Nat × Nat} {m:PlanM} {X:Option Addr} {ys:List Value}
theorem PlanO.at_ (h:PlanO w Bs m):PlanAt w m:=⟨h.rous.cells,fun r hr=>(h.each r hr).at_,h.uns.cells,h.rous.cap,h.uns.cap,h.unsF⟩
theorem PlanO.below (h:PlanO w Bs m) (hb:Below w.heap.size w w'):PlanO w' Bs m:=⟨h.rous.below hb,fun r hr=>(h.each r hr).below hb,h.uns.below hb,h.unsF⟩
theorem PlanO.mono (h:PlanO w Bs m) (hB:Bs'≤Bs):PlanO w Bs' m:=⟨h.rous.mono hB,fun r hr=>(h.each r hr).mono hB,h.uns.mono hB,h.unsF⟩
theorem PlanO.keptB (h:PlanO w Bs m) (hk:KpB g w w') (hg:w.heap[g]? = some (.cells l e z)) (h1:4≠e) (h2:133≠e) (h3:50≠e) (h4:3≠e):PlanO w' Bs m:=⟨h.rous.keptB hk hg h3,fun r hr=>(h.each r hr).keptB hk hg h1 h2,h.uns.keptB hk hg h4,h.unsF⟩
theorem PlanO.keptA (h:PlanO w Bs m) (hk:KpA X w w') (hX:OwnR w Bs' e sz X n c ys) (h1:4≠e) (h2:133≠e) (h3:50≠e) (h4:3≠e):PlanO w' Bs m:=⟨h.rous.keptA hk hX h3,fun r hr=>(h.each r hr).keptA hk hX h1 h2,h.uns.keptA hk hX h4,h.unsF⟩
theorem PlanO.nil (w:World) (Bs:Nat):PlanO w Bs ⟨none,0,[],none,0,[]⟩:=⟨OwnR.nil _ _ _ _,fun r hr=>absurd hr (by simp),OwnR.nil _ _ _ _,fun u hu=>absurd hu (by simp)⟩
end
def PlanE (R:PlanV × Nat × Int) (w:World) (e:Ending) (w':World):Prop:=∃ m:PlanM,e=.returned (.tuple #[planA m,.int .i64 (R.2.1:Int),.int .i64 R.2.2])∧m.v=R.1∧PlanO w' w.heap.size m∧Below w.heap.size w w'
theorem PlanE.bad {R:PlanV × Nat × Int} {w w':World} {n:Nat} {k e:Int} (h:R=(⟨[],[]⟩,n,e)) (hk:(n:Int)=k) (hb:Below w.heap.size w w'):PlanE R w (.returned (.tuple #[.agg #[.slice none 0 0,.slice none 0 0],.int .i64 k,.int .i64 e])) w':=by
 subst h hk
 exact ⟨⟨none,0,[],none,0,[]⟩,rfl,rfl,PlanO.nil _ _,hb⟩
theorem unl_nil {ls:List Str} {t:Str}:unl ls ++ t=[]↔ls=[]∧t=[]:=by
 cases ls with
 |nil=>simp [unl]
 |cons l ls=>simp [unl]
theorem unsR_fits {ws:List Str} {u:List Int} (h:unsR ws=some u):∀ k ∈ u,fits k:=by
 cases ws with
 |nil=>cases h
 |cons a vs =>
  change (if a=unsW then allR numR vs else none)=some u at h
  by_cases ha:a=unsW
  ·rw [if_pos ha] at h;exact (allR_num h).2
  ·rw [if_neg ha] at h;cases h
def szS (v:Value):Nat:=match v with | .string s=>s.size | _=>0
set_option maxHeartbeats 4000000 in
set_option maxRecDepth 100000 in
theorem pparse_any (s0:Str) (w:World) (hs:s0.length≤60000) (he:EnvP w) :
  Calls Tryz.prog 69 #[.string (B s0)] w (PlanE (planR s0) w):=by
 have hpr:planR s0=planG [] 1 (linesG s0).1 (!(linesG s0).2.isEmpty):=by unfold planR;rw [if_neg (by omega)]
 have hlo:=linesG_of s0
 generalize (linesG s0).1=ls0 at *
 generalize (linesG s0).2=t at *
 generalize planR s0=R at *
 have HPR:=Lib.hid hpr
 have HLO:=Lib.hid hlo
 have HE:=Lib.hid he
 obtain ⟨n1,p1⟩:=new_at w planZ
 obtain ⟨n2,p2⟩:=new_at (w.alloc planZ) planZ
 have hs1:(w.alloc planZ).heap.size=w.heap.size+1:=Array.size_push ..
 have q2:=row_keep p1 n2
 have hb2:=below_lift n1 n2
 rw [hs1] at p2
 have hrb:w.heap.size≠w.heap.size+1∧w.heap.size≤w.heap.size+1:=by omega
 have hbig:¬ (65536:Int)<(s0.length:Int):=by omega
 clear n1 n2 p1 hs1 hpr hlo he
 go_enter Tryz.func69,Tryz.ntmps69
 simp only [B_mk]
 go_upto_region 4 with fail
 generalize (w.alloc planZ).alloc planZ=w2 at *
 generalize w.heap.size+1=pb at *
 have HRB:=Lib.hid hrb
 have HP2:=Lib.hid (⟨p2,q2,OwnR.nil _ _ _ _,fun m hm=>absurd hm (by simp)⟩:PlanB w2 w.heap.size pb w.heap.size none 0 [])
 have HB2:=Lib.hid hb2
 clear p2 q2 hb2 hrb hbig
 go_wp2_with fail
 go_loopw [0,6,7,8,9,10,11,12,13,14,15] (fun sv nv _ _ _ _ _ _ _ _ _ wr=>∃ (s:Str) (ls:List Str) (n:Nat) (A:Option Addr) (ca:Nat) (acc:List RouM),sv=.string (B s)∧nv=.int .i64 (n:Int)∧s.length≤60000∧LinesOf s ls t∧n+s.length≤60001∧acc.length≤n∧R=planG (acc.map (·.r)) n ls (!t.isEmpty)∧PlanB wr w.heap.size pb w.heap.size A ca acc∧Below w.heap.size w wr) (fun sv _ _ _ _ _ _ _ _ _ _ _=>szS sv)
 case atStart=>exact ⟨s0,ls0,1,none,0,[],rfl,rfl,hs,HLO.out,by omega,by simp,HPR.out,HP2.out,HB2.out⟩
 case round =>
  clear HPR HLO HP2 HB2
  obtain ⟨s,ls,n,A,ca,acc,rfl,rfl,hsl,hls,hns,hac,hR,hpb,hbel⟩:=hrel
  have HR:=Lib.hid hR
  have HPB:=Lib.hid hpb
  have HLS:=Lib.hid hls
  have HBL:=Lib.hid hbel
  have HMX:=Lib.hid (HE.out.below hbel)
  clear hR hpb hls hbel
  cases ls with
  |nil =>
   have HC:=Lib.hid (cutl_nil HLS.out wr (by omega) HMX.out.1.2)
   have HG:=Lib.hid (show R=(⟨[],[]⟩,n,3) from HR.out)
   go_wp2_with fail
   refine HC.out.mono ?_
   rintro e w3 ⟨rfl,hb3⟩
   have HWD:=Lib.hid (words_any s w3 (by omega))
   have HB3:=Lib.hid (below_lift HBL.out hb3)
   have HPB3:=Lib.hid (HPB.out.below hb3)
   clear hb3 HC HPB HBL HMX
   generalize wordsL s=wl at *
   generalize wordsE s=we at *
   go_wp2_with fail
   refine HWD.out.mono ?_
   rintro e w4 ⟨WA,wc,rfl,hown,hb4⟩
   have HB4:=Lib.hid (below_lift HB3.out hb4)
   have HPB4:=Lib.hid (HPB3.out.below hb4)
   clear hb4 HWD HPB3 HB3 hown
   obtain ⟨d0,d1⟩:=cells2 HPB4.out.res
   have z0:=frz HPB4.out.res 0
   have z1:=frz HPB4.out.res 1
   go_wp2_with fail
   (try simp only [Exit.inBlock,Exit.then])
   refine bodyPost_ret (res_row2 rfl (ld_plan (pset2 HPB4.out.res)) rfl rfl rfl) rfl ?_
   exact .bad HG.out rfl ((HB4.out.setCell (Nat.le_refl _) _).setCell (Nat.le_refl _) _)
  |cons l ls =>
   have HC:=Lib.hid (cutl_cons HLS.out wr (by omega) HMX.out.1.2)
   obtain ⟨hse,_,hl2⟩:=HLS.out.cons
   have hsl2:s.length=l.length+1+(unl ls ++ t).length:=by
    have:=congrArg List.length hse
    rw [List.length_append,List.length_cons] at this
    omega
   have HL2:=Lib.hid hl2
   have hrs:(unl ls ++ t)=[]↔ls=[]∧t=[]:=unl_nil
   have HRS:=Lib.hid hrs
   generalize unl ls ++ t=rs at *
   clear hse hl2 hrs
   go_wp2_with fail
   refine HC.out.mono ?_
   rintro e w3 ⟨rfl,hb3⟩
   have HWD:=Lib.hid (words_any l w3 (by omega))
   have HB3:=Lib.hid (below_lift HBL.out hb3)
   have HPB3:=Lib.hid (HPB.out.below hb3)
   clear hb3 HC HPB HBL HMX
   have HWL:=Lib.hid (wordsL_le l)
   have hR:=HR.out
   rw [planG] at hR
   have HR:=Lib.hid hR
   clear hR
   generalize wordsL l=wl at *
   generalize wordsE l=we at *
   go_wp2_with fail
   refine HWD.out.mono ?_
   rintro e w4 ⟨WA,wc,rfl,hown,hb4⟩
   have HB4:=Lib.hid (below_lift HB3.out hb4)
   have HPB4:=Lib.hid (HPB3.out.below hb4)
   have HOW4:=Lib.hid hown
   clear hb4 HWD HPB3 HB3 hown
   by_cases hwe:we=0
   ·have g1:(we != 0)=false:=by rw [hwe];rfl
    have HR:=Lib.hid (show R=match unsR wl with
     |some u=>if ls=[]∧(!t.isEmpty)=false then (⟨acc.map (·.r),u⟩,0,0) else (⟨[],[]⟩,n,3)
     |none=>match rouR wl with
      |some r=>planG (acc.map (·.r) ++ [r]) (n+1) ls (!t.isEmpty)
      |none=>(⟨[],[]⟩,n,3) from HR.out.trans (if_pos hwe))
    clear hwe
    have hwlb:=HWL.out.1
    have HU:=Lib.hid (readUns_any wl WA wc w4 HOW4.out.cells HOW4.out.cap (fun x hx=>by have:=HWL.out.2 x hx;omega) (by omega) (HE.out.below HB4.out).2)
    go_wp2_with fail
    refine HU.out.mono ?_
    rintro e w5 ⟨UA,uc,u,ub,rfl,hur,hou,hb5⟩
    have HUR:=Lib.hid hur
    have HOU:=Lib.hid (hou.mono HB4.out.size)
    have HB5:=Lib.hid (below_lift HB4.out hb5)
    have HPB5:=Lib.hid (HPB4.out.below hb5)
    have HOW5:=Lib.hid (HOW4.out.below hb5)
    clear hur hou hb5 HU HPB4 HOW4 HB4
    cases ub with
    |true =>
     by_cases hrn:rs=[]
     ·have g2:(rs == [])=true:=by rw [hrn];rfl
      have HG:=Lib.hid (show R=(⟨acc.map (·.r),u⟩,0,0) by
       rw [HR.out,HUR.out]
       have:=HRS.out.1 hrn
       show (if ls=[]∧(!t.isEmpty)=false then _ else _)=_
       rw [if_pos ⟨this.1,by rw [this.2];rfl⟩])
      have HUF:=Lib.hid (unsR_fits HUR.out)
      clear hrn
      obtain ⟨c0,c1⟩:=cells2 HPB5.out.row
      have z1:=frz HPB5.out.row 1
      have hrow:(w5.setCell ⟨pb,1,none⟩ (.slice UA u.length uc)).heap[pb]? = some (.cells #[.slice A acc.length ca,.slice UA u.length uc] 25):=heap_put HPB5.out.row
      have hres:=(Below.heap_setCell w5 ⟨pb,1,none⟩ (.slice UA u.length uc) _ HRB.out.1).trans HPB5.out.res
      have HK:=Lib.hid (OwnR.keptB HPB5.out.own ((KpB.refl pb w5).store 1 (.slice UA u.length uc)) HPB5.out.row (by decide))
      have HKU:=Lib.hid (OwnR.keptB (show OwnR w5 w.heap.size 3 1 UA u.length uc (ints u) from HOU.out) ((KpB.refl pb w5).store 1 (.slice UA u.length uc)) HPB5.out.row (by decide))
      have HKE:=Lib.hid (fun m hm=>(HPB5.out.each m hm).keptB ((KpB.refl pb w5).store 1 (.slice UA u.length uc)) HPB5.out.row (by decide) (by decide))
      have HB6:=Lib.hid (HB5.out.setCell (p:=⟨pb,1,none⟩) HRB.out.2 (.slice UA u.length uc))
      go_upto_region 16 with fail
      generalize w5.setCell ⟨pb,1,none⟩ (.slice UA u.length uc)=w6 at *
      clear c0 c1 z1
      have HROW:=Lib.hid hrow
      have HRES:=Lib.hid hres
      obtain ⟨c0,c1⟩:=cells2 hrow
      obtain ⟨d0,d1⟩:=cells2 hres
      have z0:=frz hres 0
      have z1:=frz hres 1
      clear hrow hres
      go_wp2_with fail
      (try simp only [Exit.inBlock,Exit.then])
      refine bodyPost_ret (res_row2 rfl (ld_plan (pset2 HRES.out)) rfl rfl rfl) rfl ?_
      have hkk:=((KpB.refl w.heap.size w6).store 0 (.slice A acc.length ca)).store 1 (.slice UA u.length uc)
      have k1:=OwnR.keptB HK.out hkk HRES.out (by decide)
      have k2:=OwnR.keptB HKU.out hkk HRES.out (by decide)
      refine ⟨⟨A,ca,acc,UA,uc,u⟩,?_,?_,⟨k1,fun m hm=>(HKE.out m hm).keptB hkk HRES.out (by decide) (by decide),k2,HUF.out⟩,(HB6.out.setCell (Nat.le_refl _) _).setCell (Nat.le_refl _) _⟩
      ·rw [HG.out];rfl
      ·rw [HG.out];rfl
     ·have g2:(rs == [])=false:=by simpa using hrn
      have HG:=Lib.hid (show R=(⟨[],[]⟩,n,3) by
       rw [HR.out,HUR.out]
       show (if ls=[]∧(!t.isEmpty)=false then _ else _)=_
       rw [if_neg]
       rintro ⟨h1,h2⟩
       refine hrn (HRS.out.2 ⟨h1,?_⟩)
       cases t with
       |nil=>rfl
       |cons=>cases h2)
      clear hrn
      obtain ⟨d0,d1⟩:=cells2 HPB5.out.res
      have z0:=frz HPB5.out.res 0
      have z1:=frz HPB5.out.res 1
      go_wp2_with fail
      (try simp only [Exit.inBlock,Exit.then])
      refine bodyPost_ret (res_row2 rfl (ld_plan (pset2 HPB5.out.res)) rfl rfl rfl) rfl ?_
      exact .bad HG.out rfl ((HB5.out.setCell (Nat.le_refl _) _).setCell (Nat.le_refl _) _)
    |false =>
     have HR:=Lib.hid (show R=match rouR wl with
      |some r=>planG (acc.map (·.r) ++ [r]) (n+1) ls (!t.isEmpty)
      |none=>(⟨[],[]⟩,n,3) by rw [HR.out,HUR.out];rfl)
     have HRO:=Lib.hid (readRoute_any wl WA wc w5 HOW5.out.cells HOW5.out.cap (fun x hx=>by have:=HWL.out.2 x hx;omega) (by omega) (HE.out.below HB5.out).2)
     clear HOU
     go_wp2_with fail
     refine HRO.out.mono ?_
     rintro e w6 ⟨m,vb,rfl,hrr,hrm,hb6⟩
     have HRR:=Lib.hid hrr
     have HRM:=Lib.hid (hrm.mono HB5.out.size)
     have HB6:=Lib.hid (below_lift HB5.out hb6)
     have HPB6:=Lib.hid (HPB5.out.below hb6)
     clear hrr hrm hb6 HRO HPB5 HOW5 HB5
     obtain ⟨mA,mca,mC,mcc,⟨mk,ms,mr,mv⟩⟩:=m
     obtain ⟨n7,p7⟩:=new_at w6 (.cells #[.int .i64 mk,.int .i64 ms,.slice mA mr.length mca,.slice mC mv.length mcc] 50)
     go_upto_region 18 with fail
     generalize w6.alloc (.cells #[.int .i64 mk,.int .i64 ms,.slice mA mr.length mca,.slice mC mv.length mcc] 50)=w7 at *
     have HB7:=Lib.hid (below_lift HB6.out n7)
     have HPB7:=Lib.hid (HPB6.out.below n7)
     have HRM7:=Lib.hid (HRM.out.below n7)
     obtain ⟨y0,y1,y2,y3⟩:=cells4 p7
     clear n7 p7 HPB6 HB6 HRM
     cases vb with
     |true =>
      have hR:=HR.out
      rw [HRR.out] at hR
      have HR:=Lib.hid (show R=planG ((acc ++ [(⟨mA,mca,mC,mcc,⟨mk,ms,mr,mv⟩⟩:RouM)]).map (fun m=>m.r)) (n+1) ls (!t.isEmpty) by rw [List.map_append];exact hR)
      clear hR
      obtain ⟨c0,c1⟩:=cells2 HPB7.out.row
      have hsz:=HB7.out.size
      generalize hmr:mr.length=mrl at *
      generalize hmv:mv.length=mvl at *
      have HMR:=Lib.hid hmr
      have HMV:=Lib.hid hmv
      clear hmr hmv
      go_wp2_with (at_builtin;refine wp_appk el_prou rfl _ _ rfl w.heap.size _ _ _ (acc.flatMap RouM.cells) w7 #[.int .i64 mk,.int .i64 ms,.slice mA mrl mca,.slice mC mvl mcc] rfl HPB7.out.own rfl rfl (by intro u hu;simp at hu;rcases hu with rfl | rfl | rfl | rfl <;> rfl) (by unfold maxLen;omega) (by omega) hsz ?_;intro A' c' w8 hown8 hb8 hk8;have p8:=hk8.row HPB7.out.row (HPB7.out.own.far HPB7.out.row (by decide));have z0:=frz p8 0;obtain ⟨e0,e1⟩:=cells2 p8)
      have hkb:=(KpB.refl pb w8).store 0 (.slice A' (acc.length+1) c')
      have hp9:(w8.setCell ⟨pb,0,none⟩ (.slice A' (acc.length+1) c')).heap[pb]? = some (.cells #[.slice A' (acc.length+1) c',.slice none 0 0] 25):=heap_put p8
      have hq9:=(Below.heap_setCell w8 ⟨pb,0,none⟩ (.slice A' (acc.length+1) c') _ HRB.out.1).trans (hk8.row HPB7.out.res (HPB7.out.own.far HPB7.out.res (by decide)))
      have ho9:=OwnR.keptB hown8 hkb p8 (by decide)
      have hxs:acc.flatMap RouM.cells ++ #[Value.int .i64 mk,.int .i64 ms,.slice mA mrl mca,.slice mC mvl mcc].toList=(acc ++ [(⟨mA,mca,mC,mcc,⟨mk,ms,mr,mv⟩⟩:RouM)]).flatMap RouM.cells:=by
       rw [← HMR.out,← HMV.out];exact flat_snoc RouM.cells acc ⟨mA,mca,mC,mcc,⟨mk,ms,mr,mv⟩⟩
      rw [hxs] at ho9
      have hle:(acc ++ [(⟨mA,mca,mC,mcc,⟨mk,ms,mr,mv⟩⟩:RouM)]).length=acc.length+1:=by simp
      have hpb9:PlanB (w8.setCell ⟨pb,0,none⟩ (.slice A' (acc.length+1) c')) w.heap.size pb w.heap.size A' c' (acc ++ [⟨mA,mca,mC,mcc,⟨mk,ms,mr,mv⟩⟩]):=by
       refine ⟨by rw [hle];exact hp9,hq9,by rw [hle];exact ho9,fun m hm=>?_⟩
       rcases List.mem_append.1 hm with h | h
       ·exact ((HPB7.out.each m h).keptA hk8 HPB7.out.own (by decide) (by decide)).keptB hkb p8 (by decide) (by decide)
       ·rw [List.mem_singleton.1 h];exact (HRM7.out.keptA hk8 HPB7.out.own (by decide) (by decide)).keptB hkb p8 (by decide) (by decide)
      have hb9:=(HB7.out.trans hb8).setCell (p:=⟨pb,0,none⟩) HRB.out.2 (.slice A' (acc.length+1) c')
      have hms:szS (.string (B rs))<szS (.string (B s)):=by show (B rs).size<(B s).size;rw [B_size,B_size];omega
      first
       |exact ⟨⟨rs,ls,n+1,A',c',acc ++ [⟨mA,mca,mC,mcc,⟨mk,ms,mr,mv⟩⟩],rfl,by go_num,by omega,HL2.out,by omega,by rw [hle];omega,HR.out,hpb9,hb9⟩,hms⟩
       |(go_roundw
         case rel=>exact ⟨rs,ls,n+1,A',c',acc ++ [⟨mA,mca,mC,mcc,⟨mk,ms,mr,mv⟩⟩],rfl,by go_num,by omega,HL2.out,by omega,by rw [hle];omega,HR.out,hpb9,hb9⟩
         case measure=>exact hms)
     |false =>
      have HG:=Lib.hid (show R=(⟨[],[]⟩,n,3) by rw [HR.out,HRR.out];rfl)
      obtain ⟨d0,d1⟩:=cells2 HPB7.out.res
      have z0:=frz HPB7.out.res 0
      have z1:=frz HPB7.out.res 1
      go_wp2_with fail
      (try simp only [Exit.inBlock,Exit.then])
      refine bodyPost_ret (res_row2 rfl (ld_plan (pset2 HPB7.out.res)) rfl rfl rfl) rfl ?_
      exact .bad HG.out rfl ((HB7.out.setCell (Nat.le_refl _) _).setCell (Nat.le_refl _) _)
   ·have g1:(we != 0)=true:=by simpa using hwe
    have HG:=Lib.hid (show R=(⟨[],[]⟩,n,3) from HR.out.trans (if_neg hwe))
    clear hwe
    obtain ⟨d0,d1⟩:=cells2 HPB4.out.res
    have z0:=frz HPB4.out.res 0
    have z1:=frz HPB4.out.res 1
    go_wp2_with fail
    (try simp only [Exit.inBlock,Exit.then])
    refine bodyPost_ret (res_row2 rfl (ld_plan (pset2 HPB4.out.res)) rfl rfl rfl) rfl ?_
    exact .bad HG.out rfl ((HB4.out.setCell (Nat.le_refl _) _).setCell (Nat.le_refl _) _)
end Go.Proofs.YtljekdpgjaahjaaGreatDoor

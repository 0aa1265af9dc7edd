/- plan.readRests, readVisit. -/
import Derived.Test.YtljekdpgjaahjaaGreatDoorG56
import Derived.Test.YtljekdpgjaahjaaGreatDoorG51
import Derived.Test.YtljekdpgjaahjaaGreatDoorG64
import Derived.Test.YtljekdpgjaahjaaGreatDoorG59
namespace Go.Proofs.YtljekdpgjaahjaaGreatDoor
open Go.RowKit Num Txt Pf
set_option linter.unusedVariables false
attribute [local go_sem] B_size B_get B_toList B_mk B_extract B_append
theorem el_bool1:Elem Tryz.prog 47 4 (.bool false) 1:=⟨Tryz.underlying47,info_parts pbool_info,rfl⟩
def isYN (c:UInt8):Bool:=c == 121 || c == 110
theorem snoc_bools (l:List Bool) (b:Bool):boolsP l ++ [.bool b]=boolsP (l ++ [b]):=boolsP_snoc l b
theorem ret_sb {A A':Option Addr} {n m c c':Nat} {a b:Bool} (hA:A=A') (h:n=m) (hc:c=c') (h2:a=b):Ending.returned (.tuple #[.slice A n c,.bool a])=.returned (.tuple #[.slice A' m c',.bool b]):=by rw [hA,h,hc,h2]
def RestsE (s:Str) (w:World) (e:Ending) (w':World):Prop:=∃ (A:Option Addr) (c:Nat) (r:List Bool) (b:Bool),e=.returned (.tuple #[.slice A r.length c,.bool b])∧restsR s=(if b then some r else none)∧OwnS w' w.heap.size 4 A r.length c (boolsP r)∧Below w.heap.size w w'
theorem RestsE.mk {s:Str} {w w':World} {A:Option Addr} {c n:Nat} {r:List Bool} {b:Bool} (hn:n=r.length) (h1:restsR s=(if b then some r else none)) (h2:OwnS w' w.heap.size 4 A r.length c (boolsP r)) (h3:Below w.heap.size w w'):RestsE s w (.returned (.tuple #[.slice A n c,.bool b])) w':=⟨A,c,r,b,by rw [hn],h1,h2,h3⟩
set_option maxHeartbeats 4000000 in
set_option maxRecDepth 100000 in
theorem readRests_any (s:Str) (w:World) (hl:s.length≤100000) :
  Calls Tryz.prog 132 #[.string (B s)] w (RestsE s w):=by
 by_cases hd:s=[46]
 ·subst hd
  go_enter Tryz.func132,Tryz.ntmps132
  simp only [B_mk]
  go_wp2_with fail
  go_ret2
  exact .mk (r:=[]) (b:=true) rfl rfl (OwnS.nil _ _ _) (Below.refl _ _)
 ·have hr:restsR s=if restOK s=true then some (s.map fun c=>c == 121) else none:=by unfold restsR;rw [if_neg hd]
  have hd1:(s == [46])=false:=by simpa using hd
  have HR:=Lib.hid hr
  clear hr hd
  go_enter Tryz.func132,Tryz.ntmps132
  simp only [B_mk]
  go_wp2_with fail
  go_loopw [4,5,10] (fun o _ i wr=>∃ (k:Nat) (A:Option Addr) (c:Nat),k≤s.length∧i=.int .i64 k∧o=.slice A k c∧(s.take k).all isYN=true∧OwnS wr w.heap.size 4 A k c (boolsP ((s.take k).map fun c=>c == 121))∧Below w.heap.size w wr) (fun _ _ i _=>s.length - (intOf i).toNat)
  case atStart=>exact ⟨0,none,0,by omega,rfl,rfl,rfl,OwnS.nil _ _ _,Below.refl _ _⟩
  case round =>
   obtain ⟨k,A,c,hk,rfl,rfl,hall,hown,hbel⟩:=hrel
   have HALL:=Lib.hid hall
   clear hall
   by_cases hlt:k<s.length
   ·have hkl:(k:Int)<(s.length:Int):=by omega
    have HTK:=Lib.hid (show (s.take k).map (fun c=>c == 121) ++ [at8 s k == 121]=(s.take (k+1)).map (fun c=>c == 121) by rw [List.take_succ_eq_append_getElem hlt,List.map_append,at8_eq _ _ hlt];rfl)
    have HA1:=Lib.hid (fun h:isYN (at8 s k)=true=>all_take_succ hlt HALL.out h)
    have HA0:=Lib.hid (fun h:isYN (at8 s k)=false=>(not_all_of hlt h:s.all isYN=false))
    generalize hcc:at8 s k=d at *
    have HCC:=Lib.hid hcc
    by_cases h1:d=121
    ·subst h1
     have HTK:=Lib.hid (show (s.take k).map (fun c=>c == 121) ++ [true]=(s.take (k+1)).map (fun c=>c == 121) from HTK.out)
     go_wp2_with (at_builtin;refine wp_app1 el_bool1 rfl _ _ rfl w.heap.size _ _ _ (boolsP ((s.take k).map fun c=>c == 121)) _ (.bool true) rfl hown rfl rfl (by unfold maxLen;omega) (by omega) hbel.size ?_;intro A' c' w3 hown3 hb3)
     rw [snoc_bools,HTK.out] at hown3
     exact ⟨⟨k+1,A',c',by omega,by go_num,rfl,HA1.out rfl,hown3,hbel.trans hb3⟩,by simp [intOf];omega⟩
    ·have e1:((d.toNat:Int) != 121)=true:=by have:=u8_not h1;simp at this ⊢;omega
     have e1':((d.toNat:Int) == 121)=false:=by have:=u8_not h1;simp at this ⊢;omega
     have f1:(d == 121)=false:=by simpa using h1
     by_cases h2:d=110
     ·subst h2
      have HTK:=Lib.hid (show (s.take k).map (fun c=>c == 121) ++ [false]=(s.take (k+1)).map (fun c=>c == 121) from HTK.out)
      go_wp2_with (at_builtin;refine wp_app1 el_bool1 rfl _ _ rfl w.heap.size _ _ _ (boolsP ((s.take k).map fun c=>c == 121)) _ (.bool false) rfl hown rfl rfl (by unfold maxLen;omega) (by omega) hbel.size ?_;intro A' c' w3 hown3 hb3)
      rw [snoc_bools,HTK.out] at hown3
      exact ⟨⟨k+1,A',c',by omega,by go_num,rfl,HA1.out rfl,hown3,hbel.trans hb3⟩,by simp [intOf];omega⟩
     ·have e2:((d.toNat:Int) != 110)=true:=by have:=u8_not h2;simp at this ⊢;omega
      have f2:(d == 110)=false:=by simpa using h2
      have HN:=Lib.hid (show restsR s=none by
       rw [HR.out,if_neg]
       intro h
       unfold restOK at h
       rw [Bool.and_eq_true] at h
       have h3:=HA0.out (by unfold isYN;rw [f1,f2];rfl)
       unfold isYN at h3
       rw [h3] at h
       exact absurd h.2 (by decide))
      clear h1 h2 f1 f2 HTK
      go_wp2_with fail
      go_ret2
      exact .mk (r:=[]) (b:=false) rfl HN.out (OwnS.nil _ _ _) hbel
   ·have hkl:¬ (k:Int)<(s.length:Int):=by omega
    have hkn:k=s.length:=by omega
    subst hkn
    rw [List.take_of_length_le (Nat.le_refl _)] at hown HALL
    by_cases h0:s=[]
    ·subst h0
     go_wp2_with fail
     go_ret2
     exact .mk (r:=[]) (b:=false) rfl (by rw [HR.out];rfl) hown hbel
    ·have hp:0<s.length:=List.length_pos_iff.2 h0
     have HN:=Lib.hid (show restsR s=some (s.map fun c=>c == 121) by
      rw [HR.out,if_pos]
      unfold restOK
      rw [Bool.and_eq_true]
      refine ⟨?_,HALL.out⟩
      cases s with
      |nil=>exact absurd rfl h0
      |cons=>rfl)
     clear h0
     go_wp2_with fail
     go_ret2
     exact .mk (r:=s.map fun c=>c == 121) (b:=true) (by rw [List.length_map]) HN.out (by rw [List.length_map];exact hown) hbel
theorem num_fits (s:Str):fits (numV s):=by
 by_cases h:rightI s=true
 ·by_cases h2:fits (valI s)
  ·rw [(num_good h h2).2];exact h2
  ·rw [(num_big h h2).2];decide
 ·rw [(num_bad (by simpa using h)).2];decide
def VisitE (s:Str) (w:World) (e:Ending) (w':World):Prop:=∃ (v:Int × Bool) (b:Bool),e=.returned (.tuple #[.agg #[.int .i64 v.1,.bool v.2],.bool b])∧visR s=(if b then some v else none)∧fits v.1∧Below w.heap.size w w'
theorem VisitE.mk {s:Str} {w w':World} {n:Int} {d b:Bool} (h1:visR s=(if b then some (n,d) else none)) (h2:fits n) (h3:Below w.heap.size w w'):VisitE s w (.returned (.tuple #[.agg #[.int .i64 n,.bool d],.bool b])) w':=⟨(n,d),b,rfl,h1,h2,h3⟩
set_option maxHeartbeats 4000000 in
set_option maxRecDepth 100000 in
theorem readVisit_any (s:Str) (w:World) (hl:s.length≤100000) (he:ErrV w) :
  Calls Tryz.prog 133 #[.string (B s)] w (VisitE s w):=by
 have hz:visR []=none:=rfl
 cases s with
 |nil =>
  obtain ⟨n1,p1⟩:=new_at w (.cells #[.int .i64 0,.bool false] 133)
  have HZ:=Lib.hid hz
  clear hz
  go_enter Tryz.func133,Tryz.ntmps133
  simp only [B_mk]
  go_wp2_with fail
  (try simp only [Exit.inBlock,Exit.then])
  refine bodyPost_ret (res_row rfl (ld_vis p1) rfl rfl) rfl ?_
  exact .mk HZ.out (by decide) n1
 |cons c t =>
  have hv:visR (c :: t)=if (c=43∨c=45)∧numE t=0 then some (numV t,c == 45) else none:=rfl
  have HV:=Lib.hid hv
  have hl2:t.length≤1000000:=by rw [List.length_cons] at hl;omega
  obtain ⟨n1,p1⟩:=new_at w (.cells #[.int .i64 0,.bool false] 133)
  have HN:=Lib.hid (number_any t (w.alloc (.cells #[.int .i64 0,.bool false] 133)) hl2 (he.below n1))
  obtain ⟨s,hs⟩:∃ s,s=c :: t:=⟨_,rfl⟩
  have h0:at8 s 0=c:=by rw [hs];rfl
  have hd:s.tail=t:=by rw [hs];rfl
  have hn:(s == [])=false:=by rw [hs];rfl
  have hp:0<s.length:=by rw [hs];simp
  have HD:=Lib.hid hd
  rw [← hs]
  rw [← hs] at hl HV
  clear hs hv hz hd hl2
  have hok:c=43∨c=45∨¬ (c=43∨c=45):=by by_cases a:c=43 <;> by_cases b:c=45 <;> simp [a,b]
  rcases hok with h1 | h1 | h1
  rotate_left 2
  ·have HV0:=Lib.hid (show visR s=none by rw [HV.out,if_neg (fun h=>h1 h.1)])
   have e1:((c.toNat:Int) != 43)=true:=by have:=u8_not (fun h=>h1 (.inl h));simp at this ⊢;omega
   have e2:((c.toNat:Int) != 45)=true:=by have:=u8_not (fun h=>h1 (.inr h));simp at this ⊢;omega
   clear h1 HV
   go_enter Tryz.func133,Tryz.ntmps133
   simp only [B_mk]
   go_wp2_with fail
   (try simp only [Exit.inBlock,Exit.then])
   refine bodyPost_ret (res_row rfl (ld_vis p1) rfl rfl) rfl ?_
   exact .mk HV0.out (by decide) n1
  all_goals
   first
    |(have e1:((c.toNat:Int) != 43)=false:=by rw [h1];rfl
      have e2:((c.toNat:Int) == 45)=false:=by rw [h1];rfl)
    |(have e1:((c.toNat:Int) != 43)=true:=by rw [h1];rfl
      have e1':((c.toNat:Int) != 45)=false:=by rw [h1];rfl
      have e2:((c.toNat:Int) == 45)=true:=by rw [h1];rfl)
   by_cases hz:numE t=0
   ·have e3:(numE t == 0)=true:=by rw [hz];rfl
    have HV1:=Lib.hid (show visR s=some (numV t,c == 45) by rw [HV.out,if_pos ⟨by simp [h1],hz⟩])
    have HC:=Lib.hid (show (c == 45)=decide (c=45) from rfl)
    have HF:=Lib.hid (num_zero hz).2
    rw [h1] at HV1
    clear hz HV h1
    go_enter Tryz.func133,Tryz.ntmps133
    simp only [B_mk]
    go_upto_region 3 with fail
    generalize w.alloc (.cells #[.int .i64 0,.bool false] 133)=w1 at *
    go_wp2_with fail
    rw [HD.out]
    refine HN.out.mono ?_
    rintro e w2 ⟨rfl,hb2⟩
    have p2:=row_keep p1 hb2
    obtain ⟨q0,q1⟩:=cells2 p2
    have z0:=frz p2 0
    have z1:=frz p2 1
    have hb3:=below_lift n1 hb2
    generalize numV t=nv at *
    generalize numE t=ne at *
    go_wp2_with fail
    (try simp only [Exit.inBlock,Exit.then])
    refine bodyPost_ret (res_row rfl (ld_vis (pset2 p2)) rfl rfl) rfl ?_
    exact .mk HV1.out HF.out ((hb3.setCell (Nat.le_refl _) _).setCell (Nat.le_refl _) _)
   ·have e3:(numE t == 0)=false:=by simpa using hz
    have HV1:=Lib.hid (show visR s=none by rw [HV.out,if_neg (fun h=>hz h.2)])
    have HF:=Lib.hid (show fits (numV t) from num_fits t)
    clear hz HV h1
    go_enter Tryz.func133,Tryz.ntmps133
    simp only [B_mk]
    go_upto_region 3 with fail
    generalize w.alloc (.cells #[.int .i64 0,.bool false] 133)=w1 at *
    go_wp2_with fail
    rw [HD.out]
    refine HN.out.mono ?_
    rintro e w2 ⟨rfl,hb2⟩
    have p2:=row_keep p1 hb2
    obtain ⟨q0,q1⟩:=cells2 p2
    have z0:=frz p2 0
    have z1:=frz p2 1
    have hb3:=below_lift n1 hb2
    generalize numV t=nv at *
    generalize numE t=ne at *
    go_wp2_with fail
    (try simp only [Exit.inBlock,Exit.then])
    refine bodyPost_ret (res_row rfl (ld_vis (pset2 p2)) rfl rfl) rfl ?_
    exact .mk HV1.out HF.out ((hb3.setCell (Nat.le_refl _) _).setCell (Nat.le_refl _) _)
theorem el_int1:Elem Tryz.prog 23 3 (.int .i64 0) 8:=⟨Tryz.underlying23,info_parts pint_info,rfl⟩
theorem snoc_intsP (l:List Int) (z:Int):ints l ++ [.int .i64 z]=ints (l ++ [z]):=by simp [ints]
theorem ints_lenP (l:List Int):(ints l).length=l.length:=by simp [ints]
def NumsE (o:Option (List Int)) (w:World) (e:Ending) (w':World):Prop:=∃ (A:Option Addr) (c:Nat) (ks:List Int) (b:Bool),e=.returned (.tuple #[.slice A ks.length c,.bool b])∧o=(if b then some ks else none)∧OwnS w' w.heap.size 3 A ks.length c (ints ks)∧Below w.heap.size w w'
theorem NumsE.mk {o:Option (List Int)} {w w':World} {A:Option Addr} {c n:Nat} {r:List Int} {b:Bool} (hn:n=r.length) (h1:o=(if b then some r else none)) (h2:OwnS w' w.heap.size 3 A r.length c (ints r)) (h3:Below w.heap.size w w'):NumsE o w (.returned (.tuple #[.slice A n c,.bool b])) w':=⟨A,c,r,b,by rw [hn],h1,h2,h3⟩
theorem allR_take {l:List Str} {k:Nat} (h:k<l.length) (hn:numE l[k]=0) {ks:List Int} (ha:allR numR (l.take k)=some ks):allR numR (l.take (k+1))=some (ks ++ [numV l[k]]):=by
 induction l generalizing k ks with
 |nil=>exact absurd h (by simp)
 |cons a l ih =>
  cases k with
  |zero =>
   rw [List.take_zero] at ha
   have hk:ks=[]:=by have:some []=some ks:=ha;injection this with this;exact this.symm
   subst hk
   have hn:numE a=0:=hn
   show allR numR (a :: l.take 0)=some ([] ++ [numV a])
   have hr:numR a=some (numV a):=by unfold numR;rw [if_pos hn]
   rw [List.take_zero,allR,hr];rfl
  |succ k =>
   rw [List.take_succ_cons,allR] at ha ⊢
   cases hr:numR a with
   |none=>rw [hr] at ha;cases ha
   |some v =>
    rw [hr] at ha
    simp only at ha ⊢
    cases h2:allR numR (l.take k) with
    |none=>rw [h2] at ha;cases ha
    |some vs =>
     rw [h2] at ha
     simp only at ha
     injection ha with ha
     have h3:=ih (k:=k) (by simpa using h) hn h2
     rw [h3,← ha];rfl
theorem allR_bad {l:List Str} {k:Nat} (h:k<l.length) (hn:numE l[k]≠0):allR numR l=none:=by
 induction l generalizing k with
 |nil=>exact absurd h (by simp)
 |cons a l ih =>
  cases k with
  |zero =>
   have hn:numE a≠0:=hn
   have hr:numR a=none:=by unfold numR;rw [if_neg hn]
   rw [allR,hr]
  |succ k =>
   rw [allR]
   cases hr:numR a with
   |none=>rfl
   |some v=>simp only;rw [ih (k:=k) (by simpa using h) hn]
set_option maxHeartbeats 4000000 in
set_option maxRecDepth 100000 in
theorem pnumbers_any (ws:List Str) (A:Option Addr) (c:Nat) (word:Str) (many:Nat) (w:World) (hc:Cells w A (strs ws)) (hn:ws.length≤c∧c≤maxLen) (hl:∀ x ∈ ws,x.length≤1000000) (hm:0<many∧many≤100) (he:ErrV w) :
  Calls Tryz.prog 72 #[.slice A ws.length c,.string (B word),.int .i64 many] w (NumsE (numsR ws word many) w):=by
 unfold maxLen at hn
 by_cases hlen:ws.length=many+1
 ·cases ws with
  |nil=>exact absurd hlen (by simp)
  |cons a vs =>
   have hvl:vs.length=many:=by simpa using hlen
   have hR:numsR (a :: vs) word many=if a=word then allR numR vs else none:=by
    show (if vs.length=many∧a=word then allR numR vs else none)=_
    by_cases hw:a=word
    ·rw [if_pos ⟨hvl,hw⟩,if_pos hw]
    ·rw [if_neg fun h=>hw h.2,if_neg hw]
   obtain ⟨b,o,hA,hb,hx⟩:=hc (by simp [strs])
   subst hA
   have x0:w.cell? ⟨b,o,none⟩=some (.string (B a)):=hx 0 _ rfl
   have HX:=Lib.hid (fun (k:Nat) (hk:k<vs.length)=>(by
    have h1:=hx (k+1) (.string (B vs[k])) (by show ((a :: vs).map fun p=>Value.string (B p))[k+1]? = _;rw [List.map_cons,List.getElem?_cons_succ,List.getElem?_map,List.getElem?_eq_getElem hk];rfl)
    rw [show o+(k+1)=o+1+k by omega] at h1
    exact h1:w.cell? ⟨b,o+1+k,none⟩=some (.string (B vs[k]))))
   have HR:=Lib.hid hR
   have HL:=Lib.hid (fun x (h:x ∈ vs)=>hl x (List.mem_cons_of_mem _ h))
   have HE:=Lib.hid he
   generalize hws:a :: vs=ws at *
   have e0:((ws.length:Int) != (many:Int)+1)=false:=by rw [bne_eq_false_iff_eq];omega
   have hwp:1<ws.length:=by omega
   have hc2:1<c:=by omega
   have hwb:ws.length≤1000000:=by omega
   have HLN:=Lib.hid hlen
   have HVL:=Lib.hid hvl
   clear hws hR hx hl hc he hlen hvl
   by_cases hw:a=word
   ·have e1:(a == word)=true:=by simpa using hw
    have HR:=Lib.hid (show numsR ws word many=allR numR vs by rw [HR.out,if_pos hw])
    clear hw
    go_enter Tryz.func72,Tryz.ntmps72
    (try simp only [B_mk])
    go_upto_region 5 with fail
    have hwl:ws.length - 1=vs.length:=by have h1:=HLN.out;have h2:=HVL.out;omega
    have hwb1:ws.length - 1≤1000000:=by omega
    generalize ws.length - 1=wm at *
    have HWL:=Lib.hid hwl
    clear hwl
    go_loopw [8,10,11,12,28] (fun o _ _ _ i wr=>∃ (k:Nat) (X:Option Addr) (cx:Nat) (ks:List Int),k≤wm∧i=.int .i64 k∧o=.slice X k cx∧ks.length=k∧allR numR (vs.take k)=some ks∧OwnS wr w.heap.size 3 X k cx (ints ks)∧Below w.heap.size w wr) (fun _ _ _ _ i _=>wm - (intOf i).toNat)
    case atStart=>exact ⟨0,none,0,[],by omega,rfl,rfl,rfl,rfl,OwnS.nil _ _ _,Below.refl _ _⟩
    case round =>
     obtain ⟨k,X,cx,ks,hk,rfl,rfl,hkl,hall,hown,hbel⟩:=hrel
     have HKL:=Lib.hid hkl
     have HALL:=Lib.hid hall
     clear hkl hall
     by_cases hlt:k<wm
     ·have hlt1:(k:Int)<(wm:Int):=by omega
      have hltv:k<vs.length:=by rw [← HWL.out];exact hlt
      have x1:wr.cell? ⟨b,o+1+k,none⟩=some (.string (B vs[k])):=(hbel.cell (p:=⟨b,o+1+k,none⟩) hb).trans (HX.out k hltv)
      have HTK:=Lib.hid (fun h:numE vs[k]=0=>allR_take hltv h HALL.out)
      have HBD:=Lib.hid (fun h:numE vs[k]≠0=>(allR_bad hltv h:allR numR vs=none))
      have HNC:=Lib.hid (number_any vs[k] wr (HL.out _ (List.getElem_mem hltv)) (HE.out.below hbel))
      generalize vs[k]=s at *
      clear hltv
      go_wp2_with fail
      refine HNC.out.mono ?_
      rintro e w2 ⟨rfl,hb2⟩
      have hown2:=hown.below hb2
      have hbel2:=below_lift hbel hb2
      clear hown hbel hb2 HNC
      generalize numV s=nv at *
      by_cases hz:numE s=0
      ·have e3:(numE s == 0)=true:=by rw [hz];rfl
       have HT:=Lib.hid (HTK.out hz)
       clear hz HTK HBD
       generalize numE s=ne at *
       go_wp2_with (at_builtin;refine wp_app1 el_int1 rfl _ _ rfl w.heap.size _ _ _ (ints ks) _ (.int .i64 nv) rfl hown2 rfl rfl (by unfold maxLen;omega) (by omega) hbel2.size ?_;intro A' c' w3 hown3 hb3)
       rw [snoc_intsP] at hown3
       first
        |exact ⟨⟨k+1,A',c',ks ++ [nv],by omega,by go_num,rfl,by rw [List.length_append,HKL.out];rfl,HT.out,hown3,hbel2.trans hb3⟩,by simp [intOf];omega⟩
        |(go_roundw
          case rel=>exact ⟨k+1,A',c',ks ++ [nv],by omega,by go_num,rfl,by rw [List.length_append,HKL.out];rfl,HT.out,hown3,hbel2.trans hb3⟩
          case measure=>simp [intOf];omega)
      ·have e3:(numE s == 0)=false:=by simpa using hz
       have HT:=Lib.hid (show numsR ws word many=none by rw [HR.out,HBD.out hz])
       clear hz HTK HBD
       generalize numE s=ne at *
       go_wp2_with fail
       go_ret2
       exact .mk (r:=[]) (b:=false) rfl HT.out (OwnS.nil _ _ _) hbel2
     ·have hlt1:¬ (k:Int)<(wm:Int):=by omega
      have HT:=Lib.hid (show numsR ws word many=some ks by
       have h1:=HALL.out
       rw [List.take_of_length_le (by rw [← HWL.out];omega)] at h1
       rw [HR.out,h1])
      go_wp2_with fail
      go_ret2
      exact .mk (r:=ks) (b:=true) HKL.out.symm HT.out (by rw [HKL.out];exact hown) hbel
   ·have e1:(a == word)=false:=by simpa using hw
    have HR:=Lib.hid (show numsR ws word many=none by rw [HR.out,if_neg hw])
    clear hw
    go_enter Tryz.func72,Tryz.ntmps72
    (try simp only [B_mk])
    go_wp2_with fail
    go_ret2
    exact .mk (r:=[]) (b:=false) rfl HR.out (OwnS.nil _ _ _) (Below.refl _ _)
 ·have e0:((ws.length:Int) != (many:Int)+1)=true:=by simp;omega
  have hR:numsR ws word many=none:=by
   cases ws with
   |nil=>rfl
   |cons a vs =>
    show (if vs.length=many∧a=word then allR numR vs else none)=_
    rw [if_neg fun h=>hlen (by rw [List.length_cons,h.1])]
  have HR:=Lib.hid hR
  clear hR hlen
  go_enter Tryz.func72,Tryz.ntmps72
  (try simp only [B_mk])
  go_wp2_with fail
  go_ret2
  exact .mk (r:=[]) (b:=false) rfl HR.out (OwnS.nil _ _ _) (Below.refl _ _)
set_option maxHeartbeats 4000000 in
set_option maxRecDepth 100000 in
theorem readUns_any (ws:List Str) (A:Option Addr) (c:Nat) (w:World) (hc:Cells w A (strs ws)) (hn:ws.length≤c∧c≤maxLen) (hl:∀ x ∈ ws,x.length≤1000000) (hm:ws.length≤1000000) (he:ErrV w) :
  Calls Tryz.prog 103 #[.slice A ws.length c] w (NumsE (unsR ws) w):=by
 unfold maxLen at hn
 cases ws with
 |nil =>
  have HR:=Lib.hid (show unsR []=none from rfl)
  go_enter Tryz.func103,Tryz.ntmps103
  (try simp only [B_mk])
  go_wp2_with fail
  go_ret2
  exact .mk (r:=[]) (b:=false) rfl HR.out (OwnS.nil _ _ _) (Below.refl _ _)
 |cons a vs =>
  have hR:unsR (a :: vs)=if a=unsW then allR numR vs else none:=rfl
  obtain ⟨b,o,hA,hb,hx⟩:=hc (by simp [strs])
  subst hA
  have x0:w.cell? ⟨b,o,none⟩=some (.string (B a)):=hx 0 _ rfl
  have HX:=Lib.hid (fun (k:Nat) (hk:k<vs.length)=>(by
   have h1:=hx (k+1) (.string (B vs[k])) (by show ((a :: vs).map fun p=>Value.string (B p))[k+1]? = _;rw [List.map_cons,List.getElem?_cons_succ,List.getElem?_map,List.getElem?_eq_getElem hk];rfl)
   rw [show o+(k+1)=o+1+k by omega] at h1
   exact h1:w.cell? ⟨b,o+1+k,none⟩=some (.string (B vs[k]))))
  have HL:=Lib.hid (fun x (h:x ∈ vs)=>hl x (List.mem_cons_of_mem _ h))
  have HE:=Lib.hid he
  have hvl:(a :: vs).length=vs.length+1:=rfl
  generalize hws:a :: vs=ws at *
  have HR:=Lib.hid hR
  have HLN:=Lib.hid hvl
  have HVL:=Lib.hid (show vs.length=vs.length from rfl)
  have hwp:0<ws.length:=by omega
  have e0:((ws.length:Int) == 0)=false:=by rw [beq_eq_false_iff_ne];omega
  clear hws hR hx hl hc he hvl
  by_cases hw:a=unsW
  ·have e1:(a == [117,110,115,101,114,118,101,100])=true:=by simpa using hw
   have HR:=Lib.hid (show unsR ws=allR numR vs by rw [HR.out,if_pos hw])
   clear hw
   have hcc:1<c∨c=1:=by omega
   rcases hcc with hc2 | hc2
   ·go_enter Tryz.func103,Tryz.ntmps103
    simp only [B_mk]
    go_upto_region 5 with fail
    have hwl:ws.length - 1=vs.length:=by have h1:=HLN.out;have h2:=HVL.out;omega
    have hwb1:ws.length - 1≤1000000:=by omega
    generalize ws.length - 1=wm at *
    have HWL:=Lib.hid hwl
    clear hwl
    go_loopw [4,6,7,8,21] (fun o _ _ _ i wr=>∃ (k:Nat) (X:Option Addr) (cx:Nat) (ks:List Int),k≤wm∧i=.int .i64 k∧o=.slice X k cx∧ks.length=k∧allR numR (vs.take k)=some ks∧OwnS wr w.heap.size 3 X k cx (ints ks)∧Below w.heap.size w wr) (fun _ _ _ _ i _=>wm - (intOf i).toNat)
    case atStart=>exact ⟨0,none,0,[],by omega,rfl,rfl,rfl,rfl,OwnS.nil _ _ _,Below.refl _ _⟩
    case round =>
     obtain ⟨k,X,cx,ks,hk,rfl,rfl,hkl,hall,hown,hbel⟩:=hrel
     have HKL:=Lib.hid hkl
     have HALL:=Lib.hid hall
     clear hkl hall
     by_cases hlt:k<wm
     ·have hlt1:(k:Int)<(wm:Int):=by omega
      have hltv:k<vs.length:=by rw [← HWL.out];exact hlt
      have x1:wr.cell? ⟨b,o+1+k,none⟩=some (.string (B vs[k])):=(hbel.cell (p:=⟨b,o+1+k,none⟩) hb).trans (HX.out k hltv)
      have HTK:=Lib.hid (fun h:numE vs[k]=0=>allR_take hltv h HALL.out)
      have HBD:=Lib.hid (fun h:numE vs[k]≠0=>(allR_bad hltv h:allR numR vs=none))
      have HNC:=Lib.hid (number_any vs[k] wr (HL.out _ (List.getElem_mem hltv)) (HE.out.below hbel))
      generalize vs[k]=s at *
      clear hltv
      go_wp2_with fail
      refine HNC.out.mono ?_
      rintro e w2 ⟨rfl,hb2⟩
      have hown2:=hown.below hb2
      have hbel2:=below_lift hbel hb2
      clear hown hbel hb2 HNC
      generalize numV s=nv at *
      by_cases hz:numE s=0
      ·have e3:(numE s == 0)=true:=by rw [hz];rfl
       have HT:=Lib.hid (HTK.out hz)
       clear hz HTK HBD
       generalize numE s=ne at *
       go_wp2_with (at_builtin;refine wp_app1 el_int1 rfl _ _ rfl w.heap.size _ _ _ (ints ks) _ (.int .i64 nv) rfl hown2 rfl rfl (by unfold maxLen;omega) (by omega) hbel2.size ?_;intro A' c' w3 hown3 hb3)
       rw [snoc_intsP] at hown3
       first
        |exact ⟨⟨k+1,A',c',ks ++ [nv],by omega,by go_num,rfl,by rw [List.length_append,HKL.out];rfl,HT.out,hown3,hbel2.trans hb3⟩,by simp [intOf];omega⟩
        |(go_roundw
          case rel=>exact ⟨k+1,A',c',ks ++ [nv],by omega,by go_num,rfl,by rw [List.length_append,HKL.out];rfl,HT.out,hown3,hbel2.trans hb3⟩
          case measure=>simp [intOf];omega)
      ·have e3:(numE s == 0)=false:=by simpa using hz
       have HT:=Lib.hid (show unsR ws=none by rw [HR.out,HBD.out hz])
       clear hz HTK HBD
       generalize numE s=ne at *
       go_wp2_with fail
       go_ret2
       exact .mk (r:=[]) (b:=false) rfl HT.out (OwnS.nil _ _ _) hbel2
     ·have hlt1:¬ (k:Int)<(wm:Int):=by omega
      have HT:=Lib.hid (show unsR ws=some ks by
       have h1:=HALL.out
       rw [List.take_of_length_le (by rw [← HWL.out];omega)] at h1
       rw [HR.out,h1])
      go_wp2_with fail
      go_ret2
      exact .mk (r:=ks) (b:=true) HKL.out.symm HT.out (by rw [HKL.out];exact hown) hbel
   ·have hv0:vs=[]:=List.length_eq_zero_iff.1 (by have:=HLN.out;omega)
    have HR:=Lib.hid (show unsR ws=some [] by rw [HR.out,hv0];rfl)
    have hw1:ws.length=1:=by omega
    clear hv0
    subst hc2
    go_enter Tryz.func103,Tryz.ntmps103
    simp only [B_mk]
    go_upto_region 5 with fail
    go_loopw [4,6,7,8,21] (fun o _ _ _ i wr=>i=.int .i64 0∧o=.slice none 0 0∧wr=w) (fun _ _ _ _ _ _=>0)
    case atStart=>exact ⟨rfl,rfl,by trivial⟩
    case round =>
     obtain ⟨rfl,rfl,rfl⟩:=hrel
     go_wp2_with fail
     go_ret2
     exact .mk (r:=[]) (b:=true) rfl HR.out (OwnS.nil _ _ _) (Below.refl _ _)
  ·have e1:(a == [117,110,115,101,114,118,101,100])=false:=by simpa using hw
   have HR:=Lib.hid (show unsR ws=none by rw [HR.out,if_neg hw])
   clear hw
   go_enter Tryz.func103,Tryz.ntmps103
   simp only [B_mk]
   go_wp2_with fail
   go_ret2
   exact .mk (r:=[]) (b:=false) rfl HR.out (OwnS.nil _ _ _) (Below.refl _ _)
theorem join_ge:∀ ws:List Str,(∀ p ∈ ws,p≠[])→ws.length≤(joinP ws).length∧∀ x ∈ ws,x.length≤(joinP ws).length
 |[],_=>⟨by simp,fun x hx=>absurd hx (by simp)⟩
 |p :: ws,h=>by
  obtain ⟨h1,h2⟩:=join_ge ws fun q hq=>h q (List.mem_cons_of_mem _ hq)
  have hp:=List.length_pos_iff.2 (h p (List.mem_cons_self ..))
  rw [joinP_cons]
  by_cases hw:ws=[]
  ·subst hw
   rw [if_pos rfl]
   refine ⟨by simp only [List.length_cons,List.length_nil];omega,fun x hx=>?_⟩
   rcases List.mem_cons.1 hx with rfl | hx
   ·exact Nat.le_refl _
   ·exact absurd hx (by simp)
  ·rw [if_neg hw]
   refine ⟨by simp only [List.length_append,List.length_cons];omega,fun x hx=>?_⟩
   rcases List.mem_cons.1 hx with rfl | hx
   ·simp
   ·have:=h2 x hx
    simp only [List.length_append,List.length_cons];omega
theorem wordsL_le (l:Str):(wordsL l).length≤l.length∧∀ x ∈ wordsL l,x.length≤l.length:=by
 by_cases h:∃ ps,lineOK l ps
 ·obtain ⟨ps,h⟩:=h
  rw [(words_ok h).1]
  have h3:=join_ge ps fun p hp=>isPart_ne (h.1 p hp)
  rw [← h.2] at h3
  exact h3
 ·rw [(words_no fun ps hp=>h ⟨ps,hp⟩).1]
  exact ⟨by simp,fun x hx=>absurd hx (by simp)⟩
def RdAt (w:World) (g:Nat) (s:Str) (n:Nat):Prop:=w.heap[g]? = some (.cells #[.string (B s),.int .i64 (n:Int)] 74)
theorem cutn_any (s:Str) (w:World) (hl:s.length≤1000000) (hm:MaxV w) :
  Calls Tryz.prog 70 #[.string (B s),.string (B [10])] w fun e w'=>e=.returned (.tuple #[.string (B (Lib.cut s [10]).1),.string (B (Lib.cut s [10]).2.1),.bool (Lib.cut s [10]).2.2])∧Below w.heap.size w w':=by
 obtain ⟨m,hm⟩:=hm
 refine (Tryz.strings_Cut (B s) (B [10]) m w (by rw [B_size];omega) hm).mono ?_
 rintro e w' ⟨rfl,n,rfl⟩
 refine ⟨?_,below_drewN (Below.refl _ _) n⟩
 rw [show (B s).data.toList=s from by simp [B],show (B [10]).data.toList=[10] from rfl];rfl
theorem cutl_cons {l:Str} {ls:List Str} {t s:Str} (h:LinesOf s (l :: ls) t) (w:World) (hl:s.length≤1000000) (hm:MaxV w) :
  Calls Tryz.prog 70 #[.string (B s),.string (B [10])] w fun e w'=>e=.returned (.tuple #[.string (B l),.string (B (unl ls ++ t)),.bool true])∧Below w.heap.size w w':=by
 obtain ⟨h1,h2,_⟩:=h.cons
 have h3:=cutn_any s w hl hm
 rw [show Lib.cut s [10]=(l,unl ls ++ t,true) by rw [h1];exact cut_line h2 _] at h3
 exact h3
theorem cutl_nil {t s:Str} (h:LinesOf s [] t) (w:World) (hl:s.length≤1000000) (hm:MaxV w) :
  Calls Tryz.prog 70 #[.string (B s),.string (B [10])] w fun e w'=>e=.returned (.tuple #[.string (B s),.string (B []),.bool false])∧Below w.heap.size w w':=by
 have h3:=cutn_any s w hl hm
 rw [show Lib.cut s [10]=(s,[],false) from cut_none h.nil.2] at h3
 exact h3
theorem RdAt.below {w w':World} {g:Nat} {s:Str} {n:Nat} (h:RdAt w g s n) (hb:Below w.heap.size w w'):RdAt w' g s n:=row_keep h hb
theorem RdAt.cells {w:World} {g:Nat} {s:Str} {n:Nat} (h:RdAt w g s n):w.cell? ⟨g,0,none⟩=some (.string (B s))∧w.cell? ⟨g,1,none⟩=some (.int .i64 (n:Int)):=cells2 h
theorem RdAt.more {w:World} {g:Nat} {s:Str} {n:Nat} (h:RdAt w g s n):RdAt (w.setCell ⟨g,1,none⟩ (.int .i64 ((n:Int)+1))) g s (n+1):=by
 unfold RdAt at *
 rw [heap_put h]
 show _=some (Obj.cells #[.string (B s),.int .i64 (((n+1:Nat):Nat):Int)] 74)
 rw [show (((n+1:Nat):Nat):Int)=(n:Int)+1 by omega];rfl
theorem RdAt.rest {w:World} {g:Nat} {s s':Str} {n:Nat} (h:RdAt w g s n):RdAt (w.setCell ⟨g,0,none⟩ (.string (B s'))) g s' n:=by
 unfold RdAt at *
 rw [heap_put h];rfl
def EnvP (w:World):Prop:=Env w∧ErrV w
theorem EnvP.below {w w':World} (h:EnvP w) (hb:Below w.heap.size w w'):EnvP w':=⟨h.1.below hb,h.2.below hb⟩
theorem EnvP.kp {w w':World} {g:Nat} {s:Str} {n:Nat} (h:EnvP w) (hk:KpB g w w') (hr:RdAt w g s n):EnvP w':=by
 have key:∀ {nm:String} {cs:Array Value},w.var? Tryz.prog nm=some cs→cs≠#[.string (B s),.int .i64 (n:Int)]→w'.var? Tryz.prog nm=some cs:=by
  intro nm cs hv hne
  rw [← hv]
  unfold World.var? at hv ⊢
  cases hg:Tryz.prog.globalNamed nm with
  |none=>rw [hg] at hv;cases hv
  |some g' =>
   rw [hg] at hv
   simp only [Option.bind_some] at hv ⊢
   have hlt:g' < w.heap.size:=by
    rcases Nat.lt_or_ge g' w.heap.size with h' | h'
    ·exact h'
    ·rw [Array.getElem?_eq_none h'] at hv;simp at hv
   rw [hk.2 g' hlt]
   intro e
   subst e
   unfold RdAt at hr
   rw [hr] at hv
   simp at hv
   exact hne hv.symm
 obtain ⟨⟨h1,m,h2⟩,tp,p,h3⟩:=h
 refine ⟨⟨?_,m,?_⟩,tp,p,key h3 (by intro e;have:=congrArg Array.size e;simp at this)⟩
 ·exact key h1 (by intro e;have:=congrArg Array.size e;simp [Lib.pow10Tab_length] at this)
 ·have hlt:0<w.heap.size:=by
   rcases Nat.lt_or_ge 0 w.heap.size with h' | h'
   ·exact h'
   ·unfold World.cell? at h2
    simp only at h2
    rw [Array.getElem?_eq_none h'] at h2
    simp at h2
  have hne:0≠g:=by
   intro e
   rw [← e] at hr
   have:=hr.cells.1
   rw [h2] at this
   cases this
  rw [← h2]
  exact World.cell?_of_block (w:=w) (hk.2 _ hlt hne)
set_option maxHeartbeats 4000000 in
set_option maxRecDepth 100000 in
theorem next_nil (g:Nat) (s t:Str) (n:Nat) (w:World) (h:RdAt w g s n) (hL:LinesOf s [] t) (hs:s.length≤100000) (hn:n≤1000000) (he:EnvP w) :
  Calls Tryz.prog 33 #[.pointer (some ⟨g,0,none⟩)] w fun e w'=>e=.returned (.tuple #[.slice none 0 0,.bool false])∧KpB g w w'∧RdAt w' g s (n+1):=by
 have hm:=h.more
 have hk:=(KpB.refl g w).store 1 (.int .i64 ((n:Int)+1))
 have he:=he.kp hk h
 obtain ⟨c0,c1⟩:=h.cells
 have z1:=frz h 1
 have HC:=Lib.hid (cutl_nil hL _ (by omega) he.1.2)
 have HM:=Lib.hid hm
 have HK:=Lib.hid hk
 clear hm hk h he hL
 go_enter Tryz.func33,Tryz.ntmps33
 simp only [B_mk]
 go_wp2_with fail
 refine HC.out.mono ?_
 rintro e w2 ⟨rfl,hb2⟩
 go_wp2_with fail
 go_ret2
 exact ⟨rfl,HK.out.below hb2,HM.out.below hb2⟩
set_option maxHeartbeats 4000000 in
set_option maxRecDepth 100000 in
theorem next_cons (g:Nat) (s l t:Str) (ls:List Str) (n:Nat) (w:World) (h:RdAt w g s n) (hL:LinesOf s (l :: ls) t) (hs:s.length≤100000) (hn:n≤1000000) (he:EnvP w) :
  Calls Tryz.prog 33 #[.pointer (some ⟨g,0,none⟩)] w fun e w'=>∃ (A:Option Addr) (c:Nat),e=.returned (.tuple #[.slice A (wordsL l).length c,.bool (wordsE l == 0 && decide (0<(wordsL l).length))])∧OwnS w' w.heap.size 9 A (wordsL l).length c (strs (wordsL l))∧KpB g w w'∧RdAt w' g (unl ls ++ t) (n+1):=by
 have hm:=h.more
 have hk:=(KpB.refl g w).store 1 (.int .i64 ((n:Int)+1))
 have he:=he.kp hk h
 obtain ⟨c0,c1⟩:=h.cells
 have z1:=frz h 1
 have hll:l.length≤100000:=by
  have:=congrArg List.length hL.cons.1
  rw [List.length_append,List.length_cons] at this
  omega
 have HC:=Lib.hid (cutl_cons hL _ (by omega) he.1.2)
 have HM:=Lib.hid hm
 have HK:=Lib.hid hk
 have HWA:=Lib.hid (fun w'=>words_any l w' hll)
 generalize unl ls ++ t=rs at *
 generalize wordsL l=wl at *
 generalize wordsE l=we at *
 clear hm hk h he hL
 go_enter Tryz.func33,Tryz.ntmps33
 simp only [B_mk]
 go_wp2_with fail
 refine HC.out.mono ?_
 rintro e w2 ⟨rfl,hb2⟩
 have hm2:=HM.out.below hb2
 have hk2:=HK.out.below hb2
 obtain ⟨d0,d1⟩:=hm2.cells
 have z0:=frz hm2 0
 have HM3:=Lib.hid (hm2.rest (s':=rs))
 have HK3:=Lib.hid (hk2.store 0 (.string (B rs)))
 have HW:=Lib.hid (HWA.out (w2.setCell ⟨g,0,none⟩ (.string (B rs))))
 clear hm2 hk2
 go_wp2_with fail
 refine HW.out.mono ?_
 rintro e w3 ⟨A,c,rfl,hown,hb3⟩
 have HO:=Lib.hid hown
 clear hown
 have hb4:=HK3.out.below hb3
 have hm4:=HM3.out.below hb3
 have hsz:=HK3.out.1
 by_cases h1:we=0
 ·have e1:(we == 0)=true:=by rw [h1];rfl
  by_cases h2:0<wl.length
  ·have hg:(we == 0 && decide (0<wl.length))=true:=by rw [e1,decide_eq_true h2];rfl
   have HG:=Lib.hid hg
   clear hg h1
   go_wp2_with fail
   go_ret2
   (try rw [HG.out])
   exact ⟨A,c,rfl,HO.out.mono hsz,hb4,hm4⟩
  ·have hg:(we == 0 && decide (0<wl.length))=false:=by rw [e1,decide_eq_false h2];rfl
   have HG:=Lib.hid hg
   clear hg h1
   go_wp2_with fail
   go_ret2
   (try rw [HG.out])
   exact ⟨A,c,rfl,HO.out.mono hsz,hb4,hm4⟩
 ·have e1:(we == 0)=false:=by simpa using h1
  have HG:=Lib.hid (show (we == 0 && decide (0<wl.length))=false by rw [e1];rfl)
  clear h1
  go_wp2_with fail
  go_ret2
  (try rw [HG.out])
  exact ⟨A,c,rfl,HO.out.mono hsz,hb4,hm4⟩
end Go.Proofs.YtljekdpgjaahjaaGreatDoor
namespace Go.Proofs.YtljekdpgjaahjaaGreatDoor
open Go.RowKit Num Txt Pf
set_option linter.unusedVariables false
theorem restsR_le {d:Str} {r:List Bool} (h:restsR d=some r):r.length≤d.length:=by
 unfold restsR at h
 by_cases h1:d=[46]
 ·rw [if_pos h1] at h;injection h with h;rw [← h];simp
 ·rw [if_neg h1] at h
  by_cases h2:restOK d=true
  ·rw [if_pos h2] at h;injection h with h;rw [← h,List.length_map];exact Nat.le_refl _
  ·rw [if_neg h2] at h;cases h
theorem rouR_le {ws:List Str} {r:RouV} {K:Nat} (h:rouR ws=some r) (hw:ws.length≤K) (hl:∀ x ∈ ws,x.length≤K):r.rests.length≤K∧r.vis.length≤K:=by
 match ws,h with
 |a :: b :: c :: d :: vs,h =>
  change (if a=routeW∧numE b=0∧numE c=0 then
   match restsR d,allR visR vs with
   |some r,some v=>some ⟨numV b,numV c,r,v⟩
   |_,_=>none
   else none)=some r at h
  by_cases h1:a=routeW∧numE b=0∧numE c=0
  ·rw [if_pos h1] at h
   cases hr:restsR d with
   |none=>rw [hr] at h;cases h
   |some rr =>
    cases hv:allR visR vs with
    |none=>rw [hr,hv] at h;cases h
    |some vv =>
     rw [hr,hv] at h
     injection h with h
     have e1:=restsR_le hr
     have e2:=(allR_some hv).1
     have e3:=hl d (by simp)
     simp only [List.length_cons] at hw
     rw [← h]
     exact ⟨by show rr.length≤K;omega,by show vv.length≤K;omega⟩
  ·rw [if_neg h1] at h;cases h
theorem unsR_le {ws:List Str} {u:List Int} (h:unsR ws=some u):u.length≤ws.length:=by
 cases ws with
 |nil=>cases h
 |cons a vs =>
  change (if a=unsW then allR numR vs else none)=some u at h
  by_cases ha:a=unsW
  ·rw [if_pos ha] at h;have:=(allR_some h).1;rw [List.length_cons];omega
  ·rw [if_neg ha] at h;cases h
theorem planG_le {K:Nat}:∀ (ls:List Str) (acc:List RouV) (n:Nat) (t:Bool),(∀ l ∈ ls,l.length≤K)→(∀ r ∈ acc,r.rests.length≤K∧r.vis.length≤K) →
  (planG acc n ls t).1.rous.length≤acc.length+ls.length∧(∀ r ∈ (planG acc n ls t).1.rous,r.rests.length≤K∧r.vis.length≤K)∧(planG acc n ls t).1.uns.length≤K
 |[],acc,n,t,_,_=>⟨by rw [planG];simp,by rw [planG];intro r hr;exact absurd hr (by simp),by rw [planG];simp⟩
 |l :: ls,acc,n,t,hl,ha=>by
  have hz:∀ m:Nat,((⟨[],[]⟩,m,3):PlanV × Nat × Int).1.rous.length≤acc.length+(l :: ls).length∧(∀ r ∈ ((⟨[],[]⟩,m,3):PlanV × Nat × Int).1.rous,r.rests.length≤K∧r.vis.length≤K)∧((⟨[],[]⟩,m,3):PlanV × Nat × Int).1.uns.length≤K:=fun m=>⟨by simp,fun r hr=>absurd hr (by simp),by simp⟩
  have hll:=hl l (by simp)
  obtain ⟨hw1,hw2⟩:=wordsL_le l
  rw [planG]
  by_cases h1:wordsE l=0
  ·rw [if_pos h1]
   cases hu:unsR (wordsL l) with
   |some u =>
    simp only
    by_cases h2:ls=[]∧t=false
    ·rw [if_pos h2]
     refine ⟨by simp,ha,?_⟩
     have:=unsR_le hu
     show u.length≤K
     omega
    ·rw [if_neg h2];exact hz n
   |none =>
    simp only
    cases hr:rouR (wordsL l) with
    |some r =>
     simp only
     have hrr:=rouR_le hr (Nat.le_trans hw1 hll) (fun x hx=>Nat.le_trans (hw2 x hx) hll)
     obtain ⟨a1,a2,a3⟩:=planG_le ls (acc ++ [r]) (n+1) t (fun m hm=>hl m (by simp [hm])) (fun q hq=>by
      rcases List.mem_append.1 hq with h | h
      ·exact ha q h
      ·rw [List.mem_singleton.1 h];exact hrr)
     refine ⟨?_,a2,a3⟩
     rw [List.length_append] at a1
     rw [List.length_cons]
     simp only [List.length_cons,List.length_nil] at a1
     omega
    |none=>simp only;exact hz n
  ·rw [if_neg h1];exact hz n
theorem unl_len:∀ ls:List Str,ls.length≤(unl ls).length∧∀ l ∈ ls,l.length≤(unl ls).length
 |[]=>⟨by simp,fun l hl=>absurd hl (by simp)⟩
 |l :: ls=>by
  obtain ⟨h1,h2⟩:=unl_len ls
  have e:unl (l :: ls)=l ++ 10 :: unl ls:=by simp [unl]
  rw [e]
  refine ⟨by simp only [List.length_cons,List.length_append];omega,fun m hm=>?_⟩
  simp only [List.length_cons,List.length_append]
  rcases List.mem_cons.1 hm with rfl | hm
  ·omega
  ·have:=h2 m hm;omega
theorem lines_le {s:Str} {ls:List Str} {t:Str} (h:LinesOf s ls t):ls.length≤s.length∧∀ l ∈ ls,l.length≤s.length:=by
 obtain ⟨h1,h2⟩:=unl_len ls
 rw [h.eq,List.length_append]
 exact ⟨by omega,fun l hl=>by have:=h2 l hl;omega⟩
theorem planR_le (s:Str):(planR s).1.rous.length≤s.length∧(∀ r ∈ (planR s).1.rous,r.rests.length≤s.length∧r.vis.length≤s.length)∧(planR s).1.uns.length≤s.length:=by
 unfold planR
 by_cases h:s.length > 65536
 ·rw [if_pos h];exact ⟨by simp,fun r hr=>absurd hr (by simp),by simp⟩
 ·rw [if_neg h]
  obtain ⟨h1,h2⟩:=lines_le (linesG_of s)
  obtain ⟨a1,a2,a3⟩:=planG_le (K:=s.length) (linesG s).1 [] 1 (!(linesG s).2.isEmpty) h2 (fun r hr=>absurd hr (by simp))
  exact ⟨by simp only [List.length_nil] at a1;omega,a2,a3⟩
theorem forms_le (t:Str):t.length≤(forms t).length:=by
 induction t with
 |nil=>simp [forms]
 |cons c t ih =>
  rw [forms_cons,List.length_append,List.length_cons]
  have:=List.length_pos_iff.2 (form_ne c)
  omega
theorem unqS_le (s:Str):(unqS s).length≤s.length:=by
 by_cases h:∃ t,s=quote t
 ·obtain ⟨t,rfl⟩:=h
  rw [unqS_quote]
  unfold quote
  have:=forms_le t
  simp only [List.length_append,List.length_cons]
  omega
 ·rw [(unq_no fun t ht=>h ⟨t,ht⟩).1];simp
attribute [local go_sem] B_size B_get B_toList B_mk B_extract B_append
def begW (ws:List Str):Bool:=match numsR ws leafW 3 with
 |some [_,a,b]=>decide (0≤a) && decide (0≤b)
 |_=>(numsR ws nodeW 6).isSome
theorem begins_w {l:Str} (h:wordsE l=0):begins l=begW (wordsL l):=by
 have e:∀ word many,lineN l word many=numsR (wordsL l) word many:=fun word many=>by unfold lineN;rw [if_pos h]
 unfold begins begW
 rw [e,e]
 rfl
theorem nums_len {ws:List Str} {word:Str} {many:Nat} {ks:List Int} (h:numsR ws word many=some ks):ks.length=many∧∀ k ∈ ks,fits k:=by
 obtain ⟨_,h2,h3⟩:=numsR_some h
 exact ⟨h2,h3⟩
theorem three_of {ks:List Int} (h:ks.length=3):∃ a b c,ks=[a,b,c]:=by
 match ks,h with
 |[a,b,c],_=>exact ⟨a,b,c,rfl⟩
theorem six_of {ks:List Int} (h:ks.length=6):∃ a b c d e f,ks=[a,b,c,d,e,f]:=by
 match ks,h with
 |[a,b,c,d,e,f],_=>exact ⟨a,b,c,d,e,f,rfl⟩
theorem own3 {w:World} {Bs:Nat} {A:Option Addr} {c:Nat} {x y z:Int} (h:OwnS w Bs 3 A 3 c (ints [x,y,z])):∃ g,A=some ⟨g,0,none⟩∧Bs≤g∧g<w.heap.size∧3≤c∧w.cell? ⟨g,0,none⟩=some (.int .i64 x)∧w.cell? ⟨g,1,none⟩=some (.int .i64 y)∧w.cell? ⟨g,2,none⟩=some (.int .i64 z):=by
 obtain ⟨g,hA,hg,hlt,hc,_⟩:=h.at_ (by omega)
 exact ⟨g,hA,hg,hlt,h.cap.1,by rw [hc 0 (by omega)];rfl,by rw [hc 1 (by omega)];rfl,by rw [hc 2 (by omega)];rfl⟩
set_option maxHeartbeats 4000000 in
set_option maxRecDepth 100000 in
theorem begins_any (ws:List Str) (A:Option Addr) (c:Nat) (w:World) (hc:Cells w A (strs ws)) (hn:ws.length≤c∧c≤maxLen) (hl:∀ x ∈ ws,x.length≤1000000) (he:ErrV w) :
  Calls Tryz.prog 34 #[.slice A ws.length c] w fun e w'=>e=.returned (.bool (begW ws))∧Below w.heap.size w w':=by
 have HN1:=Lib.hid (pnumbers_any ws A c leafW 3 w hc hn hl ⟨by decide,by decide⟩ he)
 have HN2:=Lib.hid (fun w' (h:Below w.heap.size w w')=>pnumbers_any ws A c nodeW 6 w' (hc.below h) hn hl ⟨by decide,by decide⟩ (he.below h))
 have HBW:=Lib.hid (show begW ws=match numsR ws leafW 3 with
  |some [_,a,b]=>decide (0≤a) && decide (0≤b)
  |_=>(numsR ws nodeW 6).isSome from rfl)
 have HL1:=Lib.hid (fun ks (h:numsR ws leafW 3=some ks)=>(nums_len h).1)
 generalize begW ws=R at *
 generalize numsR ws leafW 3=o1 at *
 generalize numsR ws nodeW 6=o2 at *
 clear hc hl he
 go_enter Tryz.func34,Tryz.ntmps34
 simp only [B_mk]
 go_wp2_with fail
 refine HN1.out.mono ?_
 rintro e w1 ⟨A1,c1,ks,b,rfl,ho,hown,hb1⟩
 cases b with
 |true =>
  obtain ⟨x,y,z,rfl⟩:=three_of (HL1.out ks ho)
  obtain ⟨g,rfl,_,hlt,hcap,x0,x1,x2⟩:=own3 hown
  have hRR:=HBW.out
  rw [ho] at hRR
  change R=(decide (0≤y) && decide (0≤z)) at hRR
  have HRR:=Lib.hid hRR
  clear hRR ho HBW hown
  by_cases h1:0≤y
  ·have HG:=Lib.hid (show R=decide (0≤z) by rw [HRR.out,decide_eq_true h1];rfl)
   go_wp2_with fail
   go_ret
   rw [HG.out]
   exact ⟨rfl,hb1⟩
  ·have HG:=Lib.hid (show R=false by rw [HRR.out,decide_eq_false h1];rfl)
   go_wp2_with fail
   go_ret
   rw [HG.out]
   exact ⟨rfl,hb1⟩
 |false =>
  have hRR:=HBW.out
  rw [ho] at hRR
  change R=o2.isSome at hRR
  have HRR:=Lib.hid hRR
  clear hRR ho HBW hown
  have HN:=Lib.hid (HN2.out w1 hb1)
  go_wp2_with fail
  refine HN.out.mono ?_
  rintro e w2 ⟨A2,c2,ks2,b2,rfl,ho2,_,hb2⟩
  have HG:=Lib.hid (show R=b2 by rw [HRR.out,ho2];cases b2 <;> rfl)
  have hb3:=below_lift hb1 hb2
  clear ho2
  go_wp2_with fail
  go_ret
  rw [HG.out]
  exact ⟨rfl,hb3⟩
end Go.Proofs.YtljekdpgjaahjaaGreatDoor

/- lorryref23: words, rests, last. -/
import Derived.Test.YtljekdpgjaahjaaGreatDoorG60
import Derived.Test.YtljekdpgjaahjaaGreatDoorG65
namespace Go.Proofs.YtljekdpgjaahjaaGreatDoor
open Go.RowKit Num Txt Pf
set_option linter.unusedVariables false
attribute [local go_sem] B_size B_get B_toList B_mk B_extract B_append
theorem split_no {a:Str} (h:∀ c ∈ a,c≠32) (b:Str):splitS (a ++ 32 :: b)=a :: splitS b∧splitS a=[a]:=by
 induction a with
 |nil=>exact ⟨by rw [List.nil_append,splitS,if_pos rfl],rfl⟩
 |cons c a ih =>
  have hc:=h c (by simp)
  obtain ⟨h1,h2⟩:=ih fun d hd=>h d (by simp [hd])
  constructor
  ·rw [List.cons_append,splitS,if_neg hc,h1]
  ·rw [splitS,if_neg hc,h2]
def wX (s:Str) (k fr:Nat) (acc:List Str):Prop:=(k≤s.length∧fr≤k∧acc ++ splitS (s.drop fr)=splitS s∧∀ c ∈ (s.take k).drop fr,c≠32)∨(k=s.length+1∧acc=splitS s)
theorem wX_start (s:Str):wX s 0 0 []:=.inl ⟨by omega,by omega,rfl,by simp⟩
theorem drop_cut {s:Str} {k fr:Nat} (hk:k<s.length) (hf:fr≤k):s.drop fr=(s.take k).drop fr ++ at8 s k :: s.drop (k+1):=by
 have e:s=s.take k ++ at8 s k :: s.drop (k+1):=by
  rw [at8_eq _ _ hk,List.getElem_cons_drop];exact (List.take_append_drop k s).symm
 conv=>lhs;rw [e]
 rw [List.drop_append_of_le_length (by rw [List.length_take];omega)]
theorem wX_space {s:Str} {k fr:Nat} {acc:List Str} (h:wX s k fr acc) (hk:k<s.length) (hc:at8 s k=32):wX s (k+1) (k+1) (acc ++ [(s.take k).drop fr]):=by
 rcases h with ⟨h1,h2,h3,h4⟩ | ⟨h1,_⟩
 ·left
  refine ⟨by omega,Nat.le_refl _,?_,?_⟩
  ·rw [← h3,drop_cut hk h2,hc,(split_no h4 _).1];simp
  ·intro c hc;rw [List.drop_of_length_le (by rw [List.length_take];omega)] at hc;exact absurd hc (by simp)
 ·omega
theorem wX_go {s:Str} {k fr:Nat} {acc:List Str} (h:wX s k fr acc) (hk:k<s.length) (hc:at8 s k≠32):wX s (k+1) fr acc:=by
 rcases h with ⟨h1,h2,h3,h4⟩ | ⟨h1,_⟩
 ·left
  refine ⟨by omega,by omega,h3,?_⟩
  intro c hcm
  rw [List.take_succ_eq_append_getElem hk,List.drop_append_of_le_length (by rw [List.length_take];omega)] at hcm
  rcases List.mem_append.1 hcm with h | h
  ·exact h4 c h
  ·rw [List.mem_singleton.1 h,← at8_eq _ _ hk];exact hc
 ·omega
theorem wX_end {s:Str} {fr:Nat} {acc:List Str} (h:wX s s.length fr acc):fr≤s.length∧wX s (s.length+1) (s.length+1) (acc ++ [s.drop fr]):=by
 rcases h with ⟨h1,h2,h3,h4⟩ | ⟨h1,_⟩
 ·refine ⟨h2,.inr ⟨rfl,?_⟩⟩
  rw [← h3]
  rw [List.take_of_length_le (Nat.le_refl _)] at h4
  rw [(split_no h4 []).2]
 ·omega
theorem wX_fin {s:Str} {fr:Nat} {acc:List Str} (h:wX s (s.length+1) fr acc):acc=splitS s:=by
 rcases h with ⟨h1,_⟩ | ⟨_,h2⟩
 ·omega
 ·exact h2
theorem wX_le {s:Str} {k fr:Nat} {acc:List Str} (h:wX s k fr acc):k≤s.length+1∧(k≤s.length→fr≤k):=by
 rcases h with ⟨h1,h2,_⟩ | ⟨h1,_⟩
 ·exact ⟨by omega,fun _=>h2⟩
 ·exact ⟨by omega,fun h=>by omega⟩
theorem lines_step {l x t:Str} {ls:List Str} (h:LinesOf (l ++ 10 :: x) ls t) (hl:∀ c ∈ l,c≠10):∃ ls',ls=l :: ls'∧LinesOf x ls' t∧x=unl ls' ++ t:=by
 cases ls with
 |nil =>
  obtain ⟨h1,h2⟩:=h.nil
  exact absurd rfl (h2 10 (by simp))
 |cons l2 ls2 =>
  obtain ⟨h1,h2,h3⟩:=h.cons
  obtain ⟨e1,e2⟩:=first_eq hl h2 h1
  subst e1
  rw [← e2] at h3
  exact ⟨ls2,rfl,h3,e2⟩
theorem lines_end {s t:Str} {ls:List Str} (h:LinesOf s ls t) (hs:∀ c ∈ s,c≠10):ls=[]:=by
 cases ls with
 |nil=>rfl
 |cons l ls =>
  obtain ⟨h1,_,_⟩:=h.cons
  exact absurd rfl (hs 10 (by rw [h1];simp))
theorem take_no {s:Str} {k fr:Nat} (hk:k<s.length) (hf:fr≤k) (h:∀ c ∈ (s.take k).drop fr,c≠10) (hc:at8 s k≠10):∀ c ∈ (s.take (k+1)).drop fr,c≠10:=by
 intro c hcm
 rw [List.take_succ_eq_append_getElem hk,List.drop_append_of_le_length (by rw [List.length_take];omega)] at hcm
 rcases List.mem_append.1 hcm with h1 | h1
 ·exact h c h1
 ·rw [List.mem_singleton.1 h1,← at8_eq _ _ hk];exact hc
theorem split_le (s:Str):(splitS s).length≤s.length+1∧∀ x ∈ splitS s,x.length≤s.length:=by
 induction s with
 |nil=>exact ⟨by simp [splitS],fun x hx=>by simp [splitS] at hx;simp [hx]⟩
 |cons c s ih =>
  obtain ⟨h1,h2⟩:=ih
  unfold splitS
  split
  ·exact ⟨by simp only [List.length_cons];omega,fun x hx=>by
    rcases List.mem_cons.1 hx with rfl | hx
    ·simp
    ·have:=h2 x hx;rw [List.length_cons];omega⟩
  ·cases hs:splitS s with
   |nil=>exact absurd hs (splitS_ne s)
   |cons w ws =>
    rw [hs] at h1 h2
    refine ⟨by simp only [List.length_cons] at *;omega,fun x hx=>?_⟩
    rcases List.mem_cons.1 hx with rfl | hx
    ·have:=h2 w (by simp);simp only [List.length_cons];omega
    ·have:=h2 x (by simp [hx]);rw [List.length_cons];omega
set_option maxHeartbeats 4000000 in
set_option maxRecDepth 100000 in
theorem rsplit_any (s:Str) (w:World) (hl:s.length≤100000) :
  Calls Tryz.prog 45 #[.string (B s)] w fun e w'=>∃ (A:Option Addr) (c:Nat),e=.returned (.slice A (splitS s).length c)∧OwnS w' w.heap.size 9 A (splitS s).length c (strs (splitS s))∧Below w.heap.size w w':=by
 have HS:=Lib.hid (wX_start s)
 have HF:=Lib.hid (fun fr acc=>@wX_fin s fr acc)
 generalize splitS s=sp at *
 go_enter Tryz.func45,Tryz.ntmps45
 (try simp only [B_mk])
 go_wp2_with fail
 go_loopw [3,4,5] (fun o f i wr=>∃ (k fr:Nat) (A:Option Addr) (c:Nat) (acc:List Str),i=.int .i64 k∧f=.int .i64 fr∧o=.slice A acc.length c∧wX s k fr acc∧acc.length≤k∧OwnS wr w.heap.size 9 A acc.length c (strs acc)∧Below w.heap.size w wr) (fun _ _ i _=>s.length+1 - (intOf i).toNat)
 case atStart=>exact ⟨0,0,none,0,[],rfl,rfl,rfl,HS.out,by simp,OwnS.nil _ _ _,Below.refl _ _⟩
 case round =>
  obtain ⟨k,fr,A,c,acc,rfl,rfl,rfl,hx,hac,hown,hbel⟩:=hrel
  obtain ⟨hk1,hk2⟩:=wX_le hx
  have HX:=Lib.hid hx
  clear hx
  by_cases hlt:k<s.length
  ·have h1:(k:Int)≤(s.length:Int):=by omega
   have h2:((k:Int) == (s.length:Int))=false:=by rw [beq_eq_false_iff_ne];omega
   have hfk:=hk2 (by omega)
   have h3:(fr:Int)≤(k:Int):=by omega
   generalize hcc:at8 s k=d at *
   by_cases hd:d=32
   ·have e3:((d.toNat:Int) == 32)=true:=by rw [hd];rfl
    have HX2:=Lib.hid (wX_space HX.out hlt (hcc.trans hd))
    clear hd hk2
    go_wp2_with (at_builtin;refine wp_app1 el_string rfl _ _ rfl w.heap.size _ _ _ (strs acc) _ (.string (B ((s.take k).drop fr))) rfl hown rfl rfl (by unfold maxLen;omega) (by omega) hbel.size ?_;intro A' c' w3 hown3 hb3)
    rw [snoc_strs] at hown3
    have hle:(acc ++ [(s.take k).drop fr]).length=acc.length+1:=by simp
    first
     |exact ⟨⟨k+1,k+1,A',c',acc ++ [(s.take k).drop fr],by go_num,by go_num,by rw [hle],HX2.out,by omega,by rw [hle];exact hown3,hbel.trans hb3⟩,by simp [intOf];omega⟩
     |(go_roundw
       case rel=>exact ⟨k+1,k+1,A',c',acc ++ [(s.take k).drop fr],by go_num,by go_num,by rw [hle],HX2.out,by omega,by rw [hle];exact hown3,hbel.trans hb3⟩
       case measure=>simp [intOf];omega)
   ·have e3:((d.toNat:Int) == 32)=false:=by have:=u8_not hd;simpa using this
    have HX2:=Lib.hid (wX_go HX.out hlt (by rw [hcc];exact hd))
    clear hd hk2
    go_wp2_with fail
    first
     |exact ⟨⟨k+1,fr,A,c,acc,by go_num,rfl,rfl,HX2.out,by omega,hown,hbel⟩,by simp [intOf];omega⟩
     |(go_roundw
       case rel=>exact ⟨k+1,fr,A,c,acc,by go_num,rfl,rfl,HX2.out,by omega,hown,hbel⟩
       case measure=>simp [intOf];omega)
  ·by_cases heq:k=s.length
   ·subst heq
    have h1:(s.length:Int)≤(s.length:Int):=by omega
    have h2:((s.length:Int) == (s.length:Int))=true:=by simp
    obtain ⟨hfk,hx2⟩:=wX_end HX.out
    have h3:(fr:Int)≤(s.length:Int):=by omega
    have HX2:=Lib.hid hx2
    clear hx2 hk2
    go_wp2_with (at_builtin;refine wp_app1 el_string rfl _ _ rfl w.heap.size _ _ _ (strs acc) _ (.string (B (s.drop fr))) rfl hown rfl rfl (by unfold maxLen;omega) (by omega) hbel.size ?_;intro A' c' w3 hown3 hb3)
    rw [snoc_strs] at hown3
    have hle:(acc ++ [s.drop fr]).length=acc.length+1:=by simp
    first
     |exact ⟨⟨s.length+1,s.length+1,A',c',acc ++ [s.drop fr],by go_num,by go_num,by rw [hle],HX2.out,by omega,by rw [hle];exact hown3,hbel.trans hb3⟩,by simp [intOf] <;> omega⟩
     |(go_roundw
       case rel=>exact ⟨s.length+1,s.length+1,A',c',acc ++ [s.drop fr],by go_num,by go_num,by rw [hle],HX2.out,by omega,by rw [hle];exact hown3,hbel.trans hb3⟩
       case measure=>simp [intOf] <;> omega)
   ·have hk:k=s.length+1:=by omega
    subst hk
    have h1:¬ ((s.length+1:Nat):Int)≤(s.length:Int):=by omega
    have hac2:=HF.out _ _ HX.out
    subst hac2
    go_wp2_with fail
    go_ret
    exact ⟨A,c,rfl,hown,hbel⟩
set_option maxHeartbeats 4000000 in
set_option maxRecDepth 100000 in
theorem rrests_any (s:Str) (w:World) (hl:s.length≤100000) :
  Calls Tryz.prog 84 #[.string (B s)] w (RestsE s w):=by
 by_cases hd:s=[46]
 ·subst hd
  go_enter Tryz.func84,Tryz.ntmps84
  simp only [B_mk]
  go_wp2_with fail
  go_ret2
  exact .mk (r:=[]) (b:=true) rfl rfl (OwnS.nil _ _ _) (Below.refl _ _)
 ·have hr:restsR s=if restOK s=true then some (s.map fun c=>c == 121) else none:=by unfold restsR;rw [if_neg hd]
  have hd1:(s == [46])=false:=by simpa using hd
  have HR:=Lib.hid hr
  clear hr hd
  go_enter Tryz.func84,Tryz.ntmps84
  simp only [B_mk]
  go_wp2_with fail
  go_loopw [4,5] (fun o i wr=>∃ (k:Nat) (A:Option Addr) (c:Nat),k≤s.length∧i=.int .i64 k∧o=.slice A k c∧(s.take k).all isYN=true∧OwnS wr w.heap.size 4 A k c (boolsP ((s.take k).map fun c=>c == 121))∧Below w.heap.size w wr) (fun _ i _=>s.length - (intOf i).toNat)
  case atStart=>exact ⟨0,none,0,by omega,rfl,rfl,rfl,OwnS.nil _ _ _,Below.refl _ _⟩
  case round =>
   obtain ⟨k,A,c,hk,rfl,rfl,hall,hown,hbel⟩:=hrel
   have HALL:=Lib.hid hall
   clear hall
   by_cases hlt:k<s.length
   ·have hkl:(k:Int)<(s.length:Int):=by omega
    have HTK:=Lib.hid (show (s.take k).map (fun c=>c == 121) ++ [at8 s k == 121]=(s.take (k+1)).map (fun c=>c == 121) by rw [List.take_succ_eq_append_getElem hlt,List.map_append,at8_eq _ _ hlt];rfl)
    have HA1:=Lib.hid (fun h:isYN (at8 s k)=true=>all_take_succ hlt HALL.out h)
    have HA0:=Lib.hid (fun h:isYN (at8 s k)=false=>(not_all_of hlt h:s.all isYN=false))
    generalize hcc:at8 s k=d at *
    have HCC:=Lib.hid hcc
    by_cases h1:d=121
    ·subst h1
     have HTK:=Lib.hid (show (s.take k).map (fun c=>c == 121) ++ [true]=(s.take (k+1)).map (fun c=>c == 121) from HTK.out)
     go_wp2_with (at_builtin;refine wp_app1 el_bool1 rfl _ _ rfl w.heap.size _ _ _ (boolsP ((s.take k).map fun c=>c == 121)) _ (.bool true) rfl hown rfl rfl (by unfold maxLen;omega) (by omega) hbel.size ?_;intro A' c' w3 hown3 hb3)
     rw [snoc_bools,HTK.out] at hown3
     exact ⟨⟨k+1,A',c',by omega,by go_num,rfl,HA1.out rfl,hown3,hbel.trans hb3⟩,by simp [intOf];omega⟩
    ·have e1:((d.toNat:Int) != 121)=true:=by have:=u8_not h1;simp at this ⊢;omega
     have e1':((d.toNat:Int) == 121)=false:=by have:=u8_not h1;simp at this ⊢;omega
     have f1:(d == 121)=false:=by simpa using h1
     by_cases h2:d=110
     ·subst h2
      have HTK:=Lib.hid (show (s.take k).map (fun c=>c == 121) ++ [false]=(s.take (k+1)).map (fun c=>c == 121) from HTK.out)
      go_wp2_with (at_builtin;refine wp_app1 el_bool1 rfl _ _ rfl w.heap.size _ _ _ (boolsP ((s.take k).map fun c=>c == 121)) _ (.bool false) rfl hown rfl rfl (by unfold maxLen;omega) (by omega) hbel.size ?_;intro A' c' w3 hown3 hb3)
      rw [snoc_bools,HTK.out] at hown3
      exact ⟨⟨k+1,A',c',by omega,by go_num,rfl,HA1.out rfl,hown3,hbel.trans hb3⟩,by simp [intOf];omega⟩
     ·have e2:((d.toNat:Int) != 110)=true:=by have:=u8_not h2;simp at this ⊢;omega
      have f2:(d == 110)=false:=by simpa using h2
      have HN:=Lib.hid (show restsR s=none by
       rw [HR.out,if_neg]
       intro h
       unfold restOK at h
       rw [Bool.and_eq_true] at h
       have h3:=HA0.out (by unfold isYN;rw [f1,f2];rfl)
       unfold isYN at h3
       rw [h3] at h
       exact absurd h.2 (by decide))
      clear h1 h2 f1 f2 HTK
      go_wp2_with fail
      go_ret2
      exact .mk (r:=[]) (b:=false) rfl HN.out (OwnS.nil _ _ _) hbel
   ·have hkl:¬ (k:Int)<(s.length:Int):=by omega
    have hkn:k=s.length:=by omega
    subst hkn
    rw [List.take_of_length_le (Nat.le_refl _)] at hown HALL
    by_cases h0:s=[]
    ·subst h0
     go_wp2_with fail
     go_ret2
     exact .mk (r:=[]) (b:=false) rfl (by rw [HR.out];rfl) hown hbel
    ·have hp:0<s.length:=List.length_pos_iff.2 h0
     have HN:=Lib.hid (show restsR s=some (s.map fun c=>c == 121) by
      rw [HR.out,if_pos]
      unfold restOK
      rw [Bool.and_eq_true]
      refine ⟨?_,HALL.out⟩
      cases s with
      |nil=>exact absurd rfl h0
      |cons=>rfl)
     clear h0
     go_wp2_with fail
     go_ret2
     exact .mk (r:=s.map fun c=>c == 121) (b:=true) (by rw [List.length_map]) HN.out (by rw [List.length_map];exact hown) hbel
set_option maxHeartbeats 4000000 in
set_option maxRecDepth 100000 in
theorem rlast_any (ws:List Str) (A:Option Addr) (c:Nat) (w:World) (hc:Cells w A (strs ws)) (hn:ws.length≤c∧c≤maxLen) (hl:∀ x ∈ ws,x.length≤1000000) (hm:ws.length≤1000000) (h0:0<ws.length) :
  Calls Tryz.prog 46 #[.slice A ws.length c] w (NumsE (unsR ws) w):=by
 unfold maxLen at hn
 cases ws with
 |nil=>exact absurd h0 (by simp)
 |cons a vs =>
  have hR:unsR (a :: vs)=if a=unsW then allR numR vs else none:=rfl
  obtain ⟨b,o,hA,hb,hx⟩:=hc (by simp [strs])
  subst hA
  have x0:w.cell? ⟨b,o,none⟩=some (.string (B a)):=hx 0 _ rfl
  have HX:=Lib.hid (fun (k:Nat) (hk:k<vs.length)=>(by
   have h1:=hx (k+1) (.string (B vs[k])) (by show ((a :: vs).map fun p=>Value.string (B p))[k+1]? = _;rw [List.map_cons,List.getElem?_cons_succ,List.getElem?_map,List.getElem?_eq_getElem hk];rfl)
   exact h1:w.cell? ⟨b,o+(k+1),none⟩=some (.string (B vs[k]))))
  have HL:=Lib.hid (fun x (h:x ∈ vs)=>hl x (List.mem_cons_of_mem _ h))
  have hvl:(a :: vs).length=vs.length+1:=rfl
  generalize hws:a :: vs=ws at *
  have HR:=Lib.hid hR
  have HLN:=Lib.hid hvl
  clear hws hR hx hl hc hvl
  by_cases hw:a=unsW
  ·have e1:(a == [117,110,115,101,114,118,101,100])=true:=by simpa using hw
   have HR:=Lib.hid (show unsR ws=allR numR vs by rw [HR.out,if_pos hw])
   clear hw
   go_enter Tryz.func46,Tryz.ntmps46
   simp only [B_mk]
   go_upto_region 5 with fail
   go_loopw [4,5,6,7] (fun o i _ _ wr=>∃ (k:Nat) (X:Option Addr) (cx:Nat) (ks:List Int),k<ws.length∧i=.int .i64 ((k+1:Nat):Int)∧o=.slice X k cx∧ks.length=k∧allR numR (vs.take k)=some ks∧OwnS wr w.heap.size 3 X k cx (ints ks)∧Below w.heap.size w wr) (fun _ i _ _ _=>ws.length+1 - (intOf i).toNat)
   case atStart=>exact ⟨0,none,0,[],h0,rfl,rfl,rfl,rfl,OwnS.nil _ _ _,Below.refl _ _⟩
   case round =>
    obtain ⟨k,X,cx,ks,hk,rfl,rfl,hkl,hall,hown,hbel⟩:=hrel
    have HKL:=Lib.hid hkl
    have HALL:=Lib.hid hall
    clear hkl hall
    by_cases hlt:k+1<ws.length
    ·have hlt1:((k+1:Nat):Int)<(ws.length:Int):=by omega
     have hltv:k<vs.length:=by have:=HLN.out;omega
     have x1:wr.cell? ⟨b,o+(k+1),none⟩=some (.string (B vs[k])):=(hbel.cell (p:=⟨b,o+(k+1),none⟩) hb).trans (HX.out k hltv)
     have HTK:=Lib.hid (fun h:numE vs[k]=0=>allR_take hltv h HALL.out)
     have HBD:=Lib.hid (fun h:numE vs[k]≠0=>(allR_bad hltv h:allR numR vs=none))
     have HNC:=Lib.hid (rnumber_any vs[k] wr (HL.out _ (List.getElem_mem hltv)))
     generalize vs[k]=s at *
     clear hltv
     go_wp2_with fail
     refine HNC.out.mono ?_
     rintro e w' ⟨rfl,h⟩;obtain rfl:=h.symm
     clear HNC
     generalize numV s=nv at *
     by_cases hz:numE s=0
     ·have e3:(numE s != 0)=false:=by rw [hz];rfl
      have HT:=Lib.hid (HTK.out hz)
      clear hz HTK HBD
      generalize numE s=ne at *
      go_wp2_with (at_builtin;refine wp_app1 el_int1 rfl _ _ rfl w.heap.size _ _ _ (ints ks) _ (.int .i64 nv) rfl hown rfl rfl (by unfold maxLen;omega) (by omega) hbel.size ?_;intro A' c' w3 hown3 hb3)
      rw [snoc_intsP] at hown3
      first
       |exact ⟨⟨k+1,A',c',ks ++ [nv],by omega,by go_num,rfl,by rw [List.length_append,HKL.out];rfl,HT.out,hown3,hbel.trans hb3⟩,by simp [intOf];omega⟩
       |(go_roundw
         case rel=>exact ⟨k+1,A',c',ks ++ [nv],by omega,by go_num,rfl,by rw [List.length_append,HKL.out];rfl,HT.out,hown3,hbel.trans hb3⟩
         case measure=>simp [intOf];omega)
     ·have e3:(numE s != 0)=true:=by simpa using hz
      have HT:=Lib.hid (show unsR ws=none by rw [HR.out,HBD.out hz])
      clear hz HTK HBD
      generalize numE s=ne at *
      go_wp2_with fail
      go_ret2
      exact .mk (r:=[]) (b:=false) rfl HT.out (OwnS.nil _ _ _) hbel
    ·have hlt1:¬ ((k+1:Nat):Int)<(ws.length:Int):=by omega
     have HT:=Lib.hid (show unsR ws=some ks by
      have h1:=HALL.out
      rw [List.take_of_length_le (by have:=HLN.out;omega)] at h1
      rw [HR.out,h1])
     go_wp2_with fail
     go_ret2
     exact .mk (r:=ks) (b:=true) HKL.out.symm HT.out (by rw [HKL.out];exact hown) hbel
  ·have e1:(a == [117,110,115,101,114,118,101,100])=false:=by simpa using hw
   have HR:=Lib.hid (show unsR ws=none by rw [HR.out,if_neg hw])
   clear hw
   go_enter Tryz.func46,Tryz.ntmps46
   simp only [B_mk]
   go_wp2_with fail
   go_ret2
   exact .mk (r:=[]) (b:=false) rfl HR.out (OwnS.nil _ _ _) (Below.refl _ _)
end Go.Proofs.YtljekdpgjaahjaaGreatDoor

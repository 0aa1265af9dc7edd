/- lorryref39: lines, numbers, next. -/
import Derived.Test.YtljekdpgjaahjaaGreatDoorPtV1
import Derived.Test.YtljekdpgjaahjaaGreatDoorG53
import Derived.Test.YtljekdpgjaahjaaGreatDoorG60
namespace Go.Proofs.YtljekdpgjaahjaaGreatDoor
open Go.RowKit Num Txt Pf
set_option linter.unusedVariables false
attribute [local go_sem] B_size B_get B_toList B_mk B_extract B_append
def linesL (s:Str):List Str:=(linesG s).1 ++ (if (linesG s).2=[] then [] else [(linesG s).2])
theorem lines_tail {s t:Str} {ls:List Str} (h:LinesOf s ls t) (hs:∀ c ∈ s,c≠10):ls=[]∧s=t:=by
 have h1:=lines_end h hs
 subst h1
 exact ⟨rfl,h.nil.1⟩
set_option maxHeartbeats 4000000 in
set_option maxRecDepth 100000 in
theorem rlines_any (s:Str) (w:World) (hl:s.length≤100000) :
  Calls Tryz.prog 36 #[.string (B s)] w fun e w'=>∃ (A:Option Addr) (c:Nat),e=.returned (.tuple #[.slice A (linesL s).length c,.bool (linesG s).2.isEmpty])∧OwnS w' w.heap.size 9 A (linesL s).length c (strs (linesL s))∧Below w.heap.size w w':=by
 have hlo:=linesG_of s
 have hL:linesL s=(linesG s).1 ++ (if (linesG s).2=[] then [] else [(linesG s).2]):=rfl
 generalize linesL s=L at *
 generalize (linesG s).1=ls0 at *
 generalize (linesG s).2=t at *
 have HLO:=Lib.hid hlo
 have HLL:=Lib.hid hL
 clear hlo hL
 go_enter Tryz.func36,Tryz.ntmps36
 (try simp only [B_mk])
 go_wp2_with fail
 go_loopw [4,5,6] (fun o f i wr=>∃ (k fr:Nat) (A:Option Addr) (c:Nat) (acc rest:List Str),i=.int .i64 k∧f=.int .i64 fr∧o=.slice A acc.length c∧fr≤k∧k≤s.length∧acc.length≤fr∧(∀ c ∈ (s.take k).drop fr,c≠10)∧LinesOf (s.drop fr) rest t∧acc ++ rest=ls0∧OwnS wr w.heap.size 9 A acc.length c (strs acc)∧Below w.heap.size w wr) (fun _ _ i _=>s.length - (intOf i).toNat)
 case atStart=>exact ⟨0,0,none,0,[],ls0,rfl,rfl,rfl,by omega,by omega,by simp,by simp,HLO.out,rfl,OwnS.nil _ _ _,Below.refl _ _⟩
 case round =>
  obtain ⟨k,fr,A,c,acc,rest,rfl,rfl,rfl,hfk,hks,hac,hno,hls,hacc,hown,hbel⟩:=hrel
  have HNO:=Lib.hid hno
  have HLS:=Lib.hid hls
  have HACC:=Lib.hid hacc
  clear hno hls hacc
  by_cases hlt:k<s.length
  ·have hlt1:(k:Int)<(s.length:Int):=by omega
   have hfki:(fr:Int)≤(k:Int):=by omega
   generalize hcc:at8 s k=d at *
   by_cases hd:d=10
   ·have e1:((d.toNat:Int) == 10)=true:=by rw [hd];rfl
    have hcut:=drop_cut hlt hfk
    rw [hcc,hd] at hcut
    rw [hcut] at HLS
    obtain ⟨rest',hrest,hl2,hx⟩:=lines_step HLS.out HNO.out
    subst hrest
    have HL2:=Lib.hid hl2
    have HAC2:=Lib.hid (show (acc ++ [(s.take k).drop fr]) ++ rest'=ls0 by rw [List.append_assoc];exact HACC.out)
    have hempty:∀ c ∈ (s.take (k+1)).drop (k+1),c≠10:=by
     intro c hc;rw [List.drop_of_length_le (by rw [List.length_take];omega)] at hc;exact absurd hc (by simp)
    have HEM:=Lib.hid hempty
    clear hd hl2 hx hcut hempty
    go_wp2_with (at_builtin;refine wp_app1 el_string rfl _ _ rfl w.heap.size _ _ _ (strs acc) _ (.string (B ((s.take k).drop fr))) rfl hown rfl rfl (by unfold maxLen;omega) (by omega) hbel.size ?_;intro A' c' w3 hown3 hb3)
    rw [snoc_strs] at hown3
    have hle:(acc ++ [(s.take k).drop fr]).length=acc.length+1:=by simp
    first
     |exact ⟨⟨k+1,k+1,A',c',acc ++ [(s.take k).drop fr],rest',by go_num,by go_num,by rw [hle],Nat.le_refl _,by omega,by rw [hle];omega,HEM.out,HL2.out,HAC2.out,by rw [hle];exact hown3,hbel.trans hb3⟩,by simp [intOf];omega⟩
     |(go_roundw
       case rel=>exact ⟨k+1,k+1,A',c',acc ++ [(s.take k).drop fr],rest',by go_num,by go_num,by rw [hle],Nat.le_refl _,by omega,by rw [hle];omega,HEM.out,HL2.out,HAC2.out,by rw [hle];exact hown3,hbel.trans hb3⟩
       case measure=>simp [intOf];omega)
   ·have e1:((d.toNat:Int) == 10)=false:=by have:=u8_not hd;simp at this ⊢;omega
    have HNO2:=Lib.hid (take_no hlt hfk HNO.out (by rw [hcc];exact hd))
    clear hd
    go_wp2_with fail
    first
     |exact ⟨⟨k+1,fr,A,c,acc,rest,by go_num,rfl,rfl,by omega,by omega,hac,HNO2.out,HLS.out,HACC.out,hown,hbel⟩,by simp [intOf];omega⟩
     |(go_roundw
       case rel=>exact ⟨k+1,fr,A,c,acc,rest,by go_num,rfl,rfl,by omega,by omega,hac,HNO2.out,HLS.out,HACC.out,hown,hbel⟩
       case measure=>simp [intOf];omega)
  ·have hlt1:¬ (k:Int)<(s.length:Int):=by omega
   have hke:k=s.length:=by omega
   subst hke
   have h1:=HNO.out
   rw [List.take_of_length_le (Nat.le_refl _)] at h1
   obtain ⟨h2,h3⟩:=lines_tail HLS.out h1
   have hL:L=acc ++ (if t=[] then [] else [t]):=by rw [HLL.out,← HACC.out,h2,List.append_nil]
   clear h1 h2
   by_cases ht:t=[]
   ·rw [if_pos ht,List.append_nil] at hL
    subst hL
    have hfl:¬ (fr:Int)<(s.length:Int):=by
     have:s.length - fr=0:=by rw [← List.length_drop,h3,ht];rfl
     omega
    subst ht
    clear h3
    go_wp2_with fail
    go_ret2
    exact ⟨A,c,rfl,hown,hbel⟩
   ·rw [if_neg ht,← h3] at hL
    have hte:t.isEmpty=false:=by cases t with
     |nil=>exact absurd rfl ht
     |cons=>rfl
    have hfl:(fr:Int)<(s.length:Int):=by
     have h4:0<t.length:=List.length_pos_iff.2 ht
     rw [← h3,List.length_drop] at h4
     omega
    have HLQ:=Lib.hid hL
    have HTE:=Lib.hid hte
    clear h3 ht hL hte
    go_wp2_with (at_builtin;refine wp_app1 el_string rfl _ _ rfl w.heap.size _ _ _ (strs acc) _ (.string (B (s.drop fr))) rfl hown rfl rfl (by unfold maxLen;omega) (by omega) hbel.size ?_;intro A' c' w3 hown3 hb3)
    rw [snoc_strs] at hown3
    have hle:(acc ++ [s.drop fr]).length=acc.length+1:=by simp
    go_ret2
    rw [HLQ.out,hle,HTE.out]
    exact ⟨A',c',rfl,hown3,hbel.trans hb3⟩
theorem lineN_no {l word:Str} {many:Nat} (h:wordsE l≠0∨(wordsL l).length≠many+1):lineN l word many=none:=by
 unfold lineN
 by_cases he:wordsE l=0
 ·rw [if_pos he]
  rcases h with h | h
  ·exact absurd he h
  ·cases hw:wordsL l with
   |nil=>rfl
   |cons a vs =>
    rw [hw] at h
    show (if vs.length=many∧a=word then allR numR vs else none)=_
    rw [if_neg fun x=>h (by rw [List.length_cons,x.1])]
 ·rw [if_neg he]
theorem lineN_yes {l word a:Str} {vs:List Str} {many:Nat} (he:wordsE l=0) (hw:wordsL l=a :: vs) (hl:vs.length=many):lineN l word many=if a=word then allR numR vs else none:=by
 unfold lineN
 rw [if_pos he,hw]
 show (if vs.length=many∧a=word then allR numR vs else none)=_
 by_cases h:a=word
 ·rw [if_pos ⟨hl,h⟩,if_pos h]
 ·rw [if_neg fun x=>h x.2,if_neg h]
set_option maxHeartbeats 4000000 in
set_option maxRecDepth 100000 in
theorem rnumbers_any (s word:Str) (many:Nat) (w:World) (hl:s.length≤100000) (hm:0<many∧many≤100) :
  Calls Tryz.prog 76 #[.string (B s),.string (B word),.int .i64 many] w (NumsE (lineN s word many) w):=by
 have HWD:=Lib.hid (rwords_any s w hl)
 have HWL:=Lib.hid (wordsL_le s)
 have HN:=Lib.hid (fun h=>@lineN_no s word many h)
 have HY:=Lib.hid (fun a vs h1 h2 h3=>@lineN_yes s word a vs many h1 h2 h3)
 generalize lineN s word many=R at *
 generalize wordsL s=ws at *
 generalize hwe:wordsE s=we at *
 have HWE:=Lib.hid hwe
 clear hwe
 go_enter Tryz.func76,Tryz.ntmps76
 (try simp only [B_mk])
 go_wp2_with fail
 refine HWD.out.mono ?_
 rintro e w1 ⟨A,c,rfl,hown,hb1⟩
 have HB1:=Lib.hid hb1
 have hcap:=hown.cap
 unfold maxLen at hcap
 have hwb:ws.length≤100000:=by have:=HWL.out.1;omega
 clear hb1 HWD
 by_cases hwz:we=0
 ·have e0:(we != 0)=false:=by rw [hwz];rfl
  by_cases hlen:ws.length=many+1
  ·have e1:((ws.length:Int) != (many:Int)+1)=false:=by rw [bne_eq_false_iff_eq];omega
   cases ws with
   |nil=>exact absurd hlen (by simp)
   |cons a vs =>
    have hvl:vs.length=many:=by simpa using hlen
    have HR:=Lib.hid (HY.out a vs hwz rfl hvl)
    obtain ⟨b,o,hA,hb,hx⟩:=hown.cells (by simp [strs])
    subst hA
    have x0:w1.cell? ⟨b,o,none⟩=some (.string (B a)):=hx 0 _ rfl
    have HX:=Lib.hid (fun (k:Nat) (hk:k<vs.length)=>(by
     have h1:=hx (k+1) (.string (B vs[k])) (by show ((a :: vs).map fun p=>Value.string (B p))[k+1]? = _;rw [List.map_cons,List.getElem?_cons_succ,List.getElem?_map,List.getElem?_eq_getElem hk];rfl)
     exact h1:w1.cell? ⟨b,o+(k+1),none⟩=some (.string (B vs[k]))))
    have HL:=Lib.hid (fun x (h:x ∈ vs)=>HWL.out.2 x (List.mem_cons_of_mem _ h))
    have hvl2:(a :: vs).length=vs.length+1:=rfl
    clear HY HN hown
    generalize hws:a :: vs=ws at *
    have HLN:=Lib.hid hvl2
    have h0:0<ws.length:=by omega
    clear hws hx hvl hvl2 hlen hwz HWL
    by_cases hw:a=word
    ·have e2:(a != word)=false:=by simpa using hw
     have e2':(a == word)=true:=by simpa using hw
     have HR:=Lib.hid (show R=allR numR vs by rw [HR.out,if_pos hw])
     clear hw
     go_wp2_with fail
     go_loopw [10,11,12,13] (fun o i _ _ wr=>∃ (k:Nat) (X:Option Addr) (cx:Nat) (ks:List Int),k<ws.length∧i=.int .i64 ((k+1:Nat):Int)∧o=.slice X k cx∧ks.length=k∧allR numR (vs.take k)=some ks∧OwnS wr w1.heap.size 3 X k cx (ints ks)∧Below w1.heap.size w1 wr) (fun _ i _ _ _=>ws.length+1 - (intOf i).toNat)
     case atStart=>exact ⟨0,none,0,[],h0,rfl,rfl,rfl,rfl,OwnS.nil _ _ _,Below.refl _ _⟩
     case round =>
      obtain ⟨k,X,cx,ks,hk,rfl,rfl,hkl,hall,hown,hbel⟩:=hrel
      have HKL:=Lib.hid hkl
      have HALL:=Lib.hid hall
      clear hkl hall
      by_cases hlt:k+1<ws.length
      ·have hlt1:((k+1:Nat):Int)<(ws.length:Int):=by omega
       have hltv:k<vs.length:=by have:=HLN.out;omega
       have x1:wr.cell? ⟨b,o+(k+1),none⟩=some (.string (B vs[k])):=(hbel.cell (p:=⟨b,o+(k+1),none⟩) hb).trans (HX.out k hltv)
       have HTK:=Lib.hid (fun h:numE vs[k]=0=>allR_take hltv h HALL.out)
       have HBD:=Lib.hid (fun h:numE vs[k]≠0=>(allR_bad hltv h:allR numR vs=none))
       have HNC:=Lib.hid (rnumber_any vs[k] wr (by have:=HL.out _ (List.getElem_mem hltv);omega))
       generalize vs[k]=sk at *
       clear hltv
       go_wp2_with fail
       refine HNC.out.mono ?_
       rintro e w' ⟨rfl,h⟩;obtain rfl:=h.symm
       clear HNC
       generalize numV sk=nv at *
       by_cases hz:numE sk=0
       ·have e3:(numE sk != 0)=false:=by rw [hz];rfl
        have HT:=Lib.hid (HTK.out hz)
        clear hz HTK HBD
        generalize numE sk=ne at *
        go_wp2_with (at_builtin;refine wp_app1 el_int1 rfl _ _ rfl w1.heap.size _ _ _ (ints ks) _ (.int .i64 nv) rfl hown rfl rfl (by unfold maxLen;omega) (by omega) hbel.size ?_;intro A' c' w3 hown3 hb3)
        rw [snoc_intsP] at hown3
        first
         |exact ⟨⟨k+1,A',c',ks ++ [nv],by omega,by go_num,rfl,by rw [List.length_append,HKL.out];rfl,HT.out,hown3,hbel.trans hb3⟩,by simp [intOf];omega⟩
         |(go_roundw
           case rel=>exact ⟨k+1,A',c',ks ++ [nv],by omega,by go_num,rfl,by rw [List.length_append,HKL.out];rfl,HT.out,hown3,hbel.trans hb3⟩
           case measure=>simp [intOf];omega)
       ·have e3:(numE sk != 0)=true:=by simpa using hz
        have HT:=Lib.hid (show R=none by rw [HR.out,HBD.out hz])
        clear hz HTK HBD
        generalize numE sk=ne at *
        go_wp2_with fail
        go_ret2
        exact .mk (r:=[]) (b:=false) rfl HT.out (OwnS.nil _ _ _) (below_lift HB1.out hbel)
      ·have hlt1:¬ ((k+1:Nat):Int)<(ws.length:Int):=by omega
       have HT:=Lib.hid (show R=some ks by
        have h1:=HALL.out
        rw [List.take_of_length_le (by have:=HLN.out;omega)] at h1
        rw [HR.out,h1])
       go_wp2_with fail
       go_ret2
       exact .mk (r:=ks) (b:=true) HKL.out.symm HT.out (by rw [HKL.out];exact hown.mono HB1.out.size) (below_lift HB1.out hbel)
    ·have e2:(a != word)=true:=by simpa using hw
     have e2':(a == word)=false:=by simpa using hw
     have HR:=Lib.hid (show R=none by rw [HR.out,if_neg hw])
     clear hw
     go_wp2_with fail
     go_ret2
     exact .mk (r:=[]) (b:=false) rfl HR.out (OwnS.nil _ _ _) HB1.out
  ·have e1:((ws.length:Int) != (many:Int)+1)=true:=by simp;omega
   have HR:=Lib.hid (HN.out (.inr hlen))
   clear hlen hwz
   go_wp2_with fail
   go_ret2
   exact .mk (r:=[]) (b:=false) rfl HR.out (OwnS.nil _ _ _) HB1.out
 ·have e0:(we != 0)=true:=by simpa using hwz
  have HR:=Lib.hid (HN.out (.inl hwz))
  clear hwz
  go_wp2_with fail
  go_ret2
  exact .mk (r:=[]) (b:=false) rfl HR.out (OwnS.nil _ _ _) HB1.out
end Go.Proofs.YtljekdpgjaahjaaGreatDoor

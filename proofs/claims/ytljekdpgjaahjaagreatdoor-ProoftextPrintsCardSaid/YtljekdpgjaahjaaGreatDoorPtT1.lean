/- lorryref39: line. -/
import Derived.Test.YtljekdpgjaahjaaGreatDoorPtV4
namespace Go.Proofs.YtljekdpgjaahjaaGreatDoor
open Go.RowKit Num Txt Pf
set_option linter.unusedVariables false
attribute [local go_sem] B_size B_get B_toList B_mk B_extract B_append
set_option maxHeartbeats 4000000 in
set_option maxRecDepth 100000 in
theorem rlineN_any (word:Str) (ks:List Int) (A:Option Addr) (c:Nat) (w:World) (hc:Cells w A (ints ks)) (hn:ks.length≤c∧c≤maxLen) (hf:∀ k ∈ ks,fits k) (hk:ks.length≤100) (hw:word.length≤100) :
  Calls Tryz.prog 66 #[.string (B word),.slice A ks.length c] w fun e w'=>e=.returned (.string (B (lineS (word :: ks.map decI))))∧Below w.heap.size w w':=by
 unfold maxLen at hn
 have hJ:lineS (word :: ks.map decI)=word ++ (ks.flatMap fun u=>32 :: decI u) ++ [10]:=by
  unfold lineS
  rw [join_cons_flat,List.flatMap_map]
 generalize lineS (word :: ks.map decI)=J at *
 have HJ:=Lib.hid hJ
 have HC:=Lib.hid hc
 have HF:=Lib.hid hf
 clear hc hJ hf
 go_enter Tryz.func66,Tryz.ntmps66
 (try simp only [B_mk])
 go_wp2_with fail
 go_loopw [5,6] (fun s i wr=>∃ k:Nat,k≤ks.length∧i=.int .i64 k∧s=.string (B (word ++ (ks.take k).flatMap fun u=>32 :: decI u))∧Below w.heap.size w wr) (fun _ i _=>ks.length - (intOf i).toNat)
 case atStart=>exact ⟨0,by omega,rfl,by simp,Below.refl _ _⟩
 case round =>
  obtain ⟨k,hkk,rfl,rfl,hbel⟩:=hrel
  have hsl2:=flat_le (fun u:Int=>(32 :: decI u:Str)) (b:=22) (ks.take k) fun u hu=>by
   have:=dec_le (HF.out u (List.mem_of_mem_take hu))
   rw [List.length_cons];omega
  rw [List.length_take_of_le hkk] at hsl2
  have hsl2:(word ++ (ks.take k).flatMap fun u:Int=>(32 :: decI u:Str)).length≤10000:=by rw [List.length_append];omega
  by_cases hlt:k<ks.length
  ·have hkl:(k:Int)<(ks.length:Int):=by omega
   obtain ⟨g1,o1,hC1,hg1,hx1⟩:=HC.out (by unfold ints;rw [List.length_map];omega)
   subst hC1
   have x0:wr.cell? ⟨g1,o1+k,none⟩=some (.int .i64 ks[k]):=(hbel.cell (p:=⟨g1,o1+k,none⟩) hg1).trans (hx1 k _ (by unfold ints;rw [List.getElem?_map,List.getElem?_eq_getElem hlt];rfl))
   have HTK:=Lib.hid (show word ++ ((ks.take k).flatMap fun u:Int=>(32 :: decI u:Str)) ++ (32 :: decI ks[k])=word ++ ((ks.take (k+1)).flatMap fun u:Int=>(32 :: decI u:Str)) by rw [List.append_assoc,flat_take (fun u:Int=>(32 :: decI u:Str)) hlt])
   have hdl:=dec_le (HF.out _ (List.getElem_mem hlt))
   have HDC:=Lib.hid (rdecimal_any ks[k] wr (HF.out _ (List.getElem_mem hlt)))
   clear hx1
   generalize ks[k]=v at *
   generalize word ++ ((ks.take k).flatMap fun u:Int=>(32 :: decI u:Str))=S1 at *
   go_wp2_with fail
   refine HDC.out.mono ?_
   rintro e w6 ⟨rfl,hb6⟩
   have hb7:=below_lift hbel hb6
   go_wp2_with fail
   first
    |exact ⟨⟨k+1,by omega,by go_num,by rw [← HTK.out],hb7⟩,by simp [intOf];omega⟩
    |(go_roundw
      case rel=>exact ⟨k+1,by omega,by go_num,by rw [← HTK.out],hb7⟩
      case measure=>simp [intOf];omega)
  ·have hkl:¬ (k:Int)<(ks.length:Int):=by omega
   have hke:k=ks.length:=by omega
   subst hke
   rw [List.take_of_length_le (Nat.le_refl _)] at *
   generalize word ++ (ks.flatMap fun u:Int=>(32 :: decI u:Str))=S1 at *
   go_wp2_with fail
   go_ret
   exact ⟨by rw [HJ.out];rfl,hbel⟩
end Go.Proofs.YtljekdpgjaahjaaGreatDoor

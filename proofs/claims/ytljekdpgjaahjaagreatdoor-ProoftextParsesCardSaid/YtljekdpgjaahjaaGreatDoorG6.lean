/- The reference of whole: plus, minus. -/
import Derived.Test.YtljekdpgjaahjaaGreatDoorG5
namespace Go.Proofs.YtljekdpgjaahjaaGreatDoor
open Go.RowKit Num
set_option linter.unusedVariables false
attribute [local go_sem] B_size B_get B_toList B_mk B_extract B_append
attribute [local go_sem high] run_max2
theorem DigAt.of_trim {w:World} {xs:List Nat} {v:Nat} {A:Option Addr} {c:Nat} (hx:digl xs) (hv:lw xs=v) (hl:xs.length≤c) (hm:c≤maxLen) (hc:Cells w A (nums xs)):DigAt w A c v:=by
 subst hv
 have h:=take_ns xs hx
 refine ⟨?_,?_,hm⟩
 ·rw [← h]
  have:=hc.take (ns (lw xs)).length
  unfold nums at this ⊢
  rw [← List.map_take] at this
  exact this
 ·have:=congrArg List.length h
  rw [List.length_take] at this;omega
theorem OwnS.fresh {w:World} {Bs:Nat} {e:TypeId} {ad:Addr} {n c:Nat} {xs:List Value} (h:OwnS w Bs e (some ad) n c xs):Bs≤ad.block:=by
 rcases h.2 with ⟨hv,_⟩ | ⟨g,cap,cur,hv,hg,_⟩
 ·cases hv
 ·injection hv with hA _ _
  injection hA with hA
  subst hA
  exact hg
theorem DigAt.setOther {w:World} {A:Option Addr} {c n g:Nat} (h:DigAt w A c n) (hne:∀ ad,A=some ad→ad.block≠g) (j:Nat) (u:Value):DigAt (w.setCell ⟨g,j,none⟩ u) A c n:=by
 refine ⟨fun h0=>?_,h.le,h.cap⟩
 obtain ⟨b,off,e,hb,hc⟩:=h.cells h0
 have hn:=hne _ e
 refine ⟨b,off,e,by simpa [World.setCell] using hb,fun k v hv=>?_⟩
 rw [World.cell?_setCell_other w _ _ u (fun he=>by injection he with he _ _;exact hn he.symm)]
 exact hc k v hv
theorem wtrim_num (xs:List Nat) (v:Nat) (A:Option Addr) (n c:Nat) (w:World) (hx:digl xs) (hv:lw xs=v) (hn:xs.length=n) (hl:n≤c) (hm:c≤maxLen) (hc:Cells w A (nums xs)) :
  Calls Tryz.prog 150 #[.slice A n c] w fun e w'=>e=.returned (.slice A (ns v).length c)∧DigAt w A c v∧w'=w:=by
 subst hn
 have h:=DigAt.of_trim hx hv hl hm hc
 subst hv
 exact (wtrim_any xs A c w hx hl hm hc).mono fun e w' ⟨h1,h2⟩=>⟨h1,h,h2⟩
theorem small_mul {x y:Nat} (hx:x<10) (hy:y<10):x*y≤81:=Nat.mul_le_mul (show x≤9 by omega) (show y≤9 by omega)
theorem lw_drop (xs:List Nat) (k:Nat) (h:k<xs.length):lw (xs.drop k)=atN xs k+10*lw (xs.drop (k+1)):=by
 rw [List.drop_eq_getElem_cons h,lw];simp [atN,h]
theorem wdiv_step (xs zs:List Nat) (j b r m rest:Nat) (hj:j<xs.length) (hjz:j<zs.length) (hz0:atN zs j=0) (h:10 ^ (j+1)*lw (xs.drop (j+1))=lw zs*b+10 ^ (j+1)*r) (hm:atN xs j+10*r=m*b+rest) :
  10 ^ j*lw (xs.drop j)=lw (zs.set j m)*b+10 ^ j*rest:=by
 have h1:=lw_set zs j m hjz
 rw [hz0,Nat.mul_zero,Nat.add_zero] at h1
 rw [h1,lw_drop xs j hj,Nat.add_mul,Nat.mul_add]
 rw [Nat.pow_succ,Nat.mul_assoc,Nat.mul_assoc] at h
 have h2:=congrArg (10 ^ j * ·) hm
 simp only [Nat.mul_add] at h2
 rw [Nat.mul_assoc (10 ^ j) m b]
 omega
theorem set_same10 (zs:List Nat) (j:Nat) (h:atN zs j=0):zs.set j 0=zs:=by
 apply List.ext_getElem?
 intro i
 rw [List.getElem?_set]
 by_cases hij:j=i
 ·subst hij
  rw [if_pos rfl]
  unfold atN at h
  rw [List.getD_eq_getElem?_getD] at h
  by_cases hl:j<zs.length
  ·rw [if_pos hl,List.getElem?_eq_getElem hl]
   rw [List.getElem?_eq_getElem hl] at h
   simp at h;rw [h]
  ·rw [if_neg hl,List.getElem?_eq_none (by omega)]
 ·rw [if_neg hij]
theorem digl_cons {x:Nat} {xs:List Nat} (hx:x<10) (h:digl xs):digl (x :: xs):=by
 intro y hy
 rcases List.mem_cons.1 hy with rfl | hy
 ·exact hx
 ·exact h y hy
theorem nums_one10 (xs:List Nat):∀ u ∈ nums xs,u.oneCell'=true:=by
 intro u hu
 unfold nums at hu
 obtain ⟨x,_,rfl⟩:=List.mem_map.1 hu
 rfl
theorem ns_mul10_len {n b:Nat} (h:n<b*10):(ns n).length≤(ns b).length+1:=by
 have h1:=ns_length_le.1 (Nat.le_refl (ns b).length)
 refine ns_length_le.2 ?_
 rw [Nat.pow_succ];omega
end Go.Proofs.YtljekdpgjaahjaaGreatDoor

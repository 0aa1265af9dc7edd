/- The reference of whole: plus, minus. -/
import Derived.Test.YtmppmdmekomjbaaGreatDoorG5
namespace Go.Proofs.YtmppmdmekomjbaaGreatDoor
open Go.RowKit Num
set_option linter.unusedVariables false
attribute [local go_sem] B_size B_get B_toList B_mk B_extract B_append
attribute [local go_sem high] run_max2
theorem DigAt.of_trim {w:World} {xs:List Nat} {v:Nat} {A:Option Addr} {c:Nat} (hx:digl xs) (hv:lw xs=v) (hl:xs.length≤c) (hm:c≤maxLen) (hc:Cells w A (nums xs)):DigAt w A c v:=by
 subst hv
 have h:=take_ns xs hx
 refine ⟨?_,?_,hm⟩
 ·rw [← h]
  have:=hc.take (ns (lw xs)).length
  unfold nums at this ⊢
  rw [← List.map_take] at this
  exact this
 ·have:=congrArg List.length h
  rw [List.length_take] at this;omega
theorem OwnS.fresh {w:World} {Bs:Nat} {e:TypeId} {ad:Addr} {n c:Nat} {xs:List Value} (h:OwnS w Bs e (some ad) n c xs):Bs≤ad.block:=by
 rcases h.2 with ⟨hv,_⟩ | ⟨g,cap,cur,hv,hg,_⟩
 ·cases hv
 ·injection hv with hA _ _
  injection hA with hA
  subst hA
  exact hg
theorem DigAt.setOther {w:World} {A:Option Addr} {c n g:Nat} (h:DigAt w A c n) (hne:∀ ad,A=some ad→ad.block≠g) (j:Nat) (u:Value):DigAt (w.setCell ⟨g,j,none⟩ u) A c n:=by
 refine ⟨fun h0=>?_,h.le,h.cap⟩
 obtain ⟨b,off,e,hb,hc⟩:=h.cells h0
 have hn:=hne _ e
 refine ⟨b,off,e,by simpa [World.setCell] using hb,fun k v hv=>?_⟩
 rw [World.cell?_setCell_other w _ _ u (fun he=>by injection he with he _ _;exact hn he.symm)]
 exact hc k v hv
theorem wtrim_num (xs:List Nat) (v:Nat) (A:Option Addr) (n c:Nat) (w:World) (hx:digl xs) (hv:lw xs=v) (hn:xs.length=n) (hl:n≤c) (hm:c≤maxLen) (hc:Cells w A (nums xs)) :
  Calls Tryz.prog 136 #[.slice A n c] w fun e w'=>e=.returned (.slice A (ns v).length c)∧DigAt w A c v∧w'=w:=by
 subst hn
 have h:=DigAt.of_trim hx hv hl hm hc
 subst hv
 exact (wtrim_any xs A c w hx hl hm hc).mono fun e w' ⟨h1,h2⟩=>⟨h1,h,h2⟩
set_option maxHeartbeats 2000000 in
theorem wplus_any (a b:Nat) (A A':Option Addr) (c c':Nat) (w:World) (hA:DigAt w A c a) (hB:DigAt w A' c' b) (hla:(ns a).length≤1000000) (hlb:(ns b).length≤1000000) :
  Calls Tryz.prog 129 #[.slice A (ns a).length c,.slice A' (ns b).length c'] w fun e w'=>∃ A2 c2,e=.returned (.slice A2 (ns (a+b)).length c2)∧DigAt w' A2 c2 (a+b)∧Below w.heap.size w w':=by
 obtain ⟨hcx,hcl,hcm⟩:=hA
 obtain ⟨hcx',hcl',hcm'⟩:=hB
 have hx:=digl_ns a
 have hy:=digl_ns b
 have HX:=Lib.hid (lw_ns a)
 have HY:=Lib.hid (lw_ns b)
 generalize ns a=xs at *
 generalize ns b=ys at *
 go_enter Tryz.func129,Tryz.ntmps129
 go_wp2_with fail
 go_loopw [5,6,7,8] (fun v cr i _ wr=>∃ (k:Nat) (zs:List Nat) (A2:Option Addr) (c2 carry:Nat),k≤1000001∧i=.int .i64 k∧v=.slice A2 k c2∧cr=.int .i64 carry∧OwnS wr w.heap.size 3 A2 k c2 (nums zs) ∧
   zs.length=k∧digl zs∧carry≤1∧lw zs+10 ^ k*carry=lw (xs.take k)+lw (ys.take k)∧(k≤max xs.length ys.length∨carry=0)∧Below w.heap.size w wr)
  (fun _ _ i _ _=>2000000 - (intOf i).toNat)
 case atStart=>exact ⟨0,[],none,0,0,by omega,rfl,rfl,rfl,OwnS.nil _ _ _,rfl,digl_nil,by omega,by simp [lw],.inl (by omega),Below.refl _ _⟩
 case round =>
  obtain ⟨k,zs,A2,c2,carry,hk,rfl,rfl,rfl,hown,hzl,hz,hcr,hv,hor,hbel⟩:=hrel
  by_cases hgo:k<xs.length∨k<ys.length∨0<carry
  ·have HS:=Lib.hid (add_step10 xs ys zs k carry hzl hv)
   have hxk:=atD_lt hx k
   have hyk:=atD_lt hy k
   have HZ:=Lib.hid hzl
   have hkm:k≤1000000:=by rcases hor with h | h <;> omega
   have HN:=Lib.hid (show k+1≤max xs.length ys.length∨(atN xs k+atN ys k+carry) / 10=0 by
    by_cases h:k<max xs.length ys.length
    ·left;omega
    ·right
     rw [atN_ge (by omega),atN_ge (by omega)];omega)
   have hcx1:=hcx.below hbel
   have hcy1:=hcx'.below hbel
   clear hzl hv hor hcx hcx'
   by_cases hlt:k<xs.length
   ·clear hgo
    go_wp2_with fail
    refine (wdigit_any xs A c k _ (by omega) hcl hcm hcx1).mono ?_;rintro e w' ⟨rfl,rfl⟩
    go_wp2_with fail
    refine (wdigit_any ys A' c' k _ (by omega) hcl' hcm' hcy1).mono ?_;rintro e w' ⟨rfl,rfl⟩
    go_wp2_with (at_builtin;refine wp_app1 el_ints rfl _ _ rfl w.heap.size _ _ _ _ _ _ rfl hown rfl rfl (by unfold maxLen;omega) (by omega) hbel.size ?_;intro A3 c3 w2 hown1 hb2)
    go_roundw
    case rel =>
     refine ⟨k+1,zs ++ [(atN xs k+atN ys k+carry) % 10],A3,c3,(atN xs k+atN ys k+carry) / 10,by omega,by go_num,rfl,by go_num,?_,by simp [HZ.out],digl_snoc hz (by omega),by omega,HS.out,HN.out,hbel.trans hb2⟩
     rw [nums_snoc]
     have e:(((atN xs k+atN ys k+carry) % 10:Nat):Int)=((atN xs k:Int)+(atN ys k:Int)+(carry:Int)) % 10:=by omega
     rw [e];exact hown1
    case measure=>simp [intOf];omega
   ·have hltb:decide (k<xs.length)=false:=by simpa using hlt
    by_cases hlt2:k<ys.length
    ·clear hgo hlt
     go_wp2_with fail
     refine (wdigit_any xs A c k _ (by omega) hcl hcm hcx1).mono ?_;rintro e w' ⟨rfl,rfl⟩
     go_wp2_with fail
     refine (wdigit_any ys A' c' k _ (by omega) hcl' hcm' hcy1).mono ?_;rintro e w' ⟨rfl,rfl⟩
     go_wp2_with (at_builtin;refine wp_app1 el_ints rfl _ _ rfl w.heap.size _ _ _ _ _ _ rfl hown rfl rfl (by unfold maxLen;omega) (by omega) hbel.size ?_;intro A3 c3 w2 hown1 hb2)
     go_roundw
     case rel =>
      refine ⟨k+1,zs ++ [(atN xs k+atN ys k+carry) % 10],A3,c3,(atN xs k+atN ys k+carry) / 10,by omega,by go_num,rfl,by go_num,?_,by simp [HZ.out],digl_snoc hz (by omega),by omega,HS.out,HN.out,hbel.trans hb2⟩
      rw [nums_snoc]
      have e:(((atN xs k+atN ys k+carry) % 10:Nat):Int)=((atN xs k:Int)+(atN ys k:Int)+(carry:Int)) % 10:=by omega
      rw [e];exact hown1
     case measure=>simp [intOf];omega
    ·have hltc:decide (k<ys.length)=false:=by simpa using hlt2
     have hcpos:0<(carry:Int):=by omega
     clear hgo hlt hlt2
     go_wp2_with fail
     refine (wdigit_any xs A c k _ (by omega) hcl hcm hcx1).mono ?_;rintro e w' ⟨rfl,rfl⟩
     go_wp2_with fail
     refine (wdigit_any ys A' c' k _ (by omega) hcl' hcm' hcy1).mono ?_;rintro e w' ⟨rfl,rfl⟩
     go_wp2_with (at_builtin;refine wp_app1 el_ints rfl _ _ rfl w.heap.size _ _ _ _ _ _ rfl hown rfl rfl (by unfold maxLen;omega) (by omega) hbel.size ?_;intro A3 c3 w2 hown1 hb2)
     go_roundw
     case rel =>
      refine ⟨k+1,zs ++ [(atN xs k+atN ys k+carry) % 10],A3,c3,(atN xs k+atN ys k+carry) / 10,by omega,by go_num,rfl,by go_num,?_,by simp [HZ.out],digl_snoc hz (by omega),by omega,HS.out,HN.out,hbel.trans hb2⟩
      rw [nums_snoc]
      have e:(((atN xs k+atN ys k+carry) % 10:Nat):Int)=((atN xs k:Int)+(atN ys k:Int)+(carry:Int)) % 10:=by omega
      rw [e];exact hown1
     case measure=>simp [intOf];omega
  ·have hc0:carry=0:=by omega
   have hval:lw zs=a+b:=by
    rw [hc0,Nat.mul_zero,Nat.add_zero,List.take_of_length_le (by omega),List.take_of_length_le (by omega),HX.out,HY.out] at hv
    exact hv
   have HW:=Lib.hid (wtrim_num zs (a+b) A2 k c2 wr hz hval hzl hown.cap.1 hown.cap.2 hown.cells)
   have hltb:decide (k<xs.length)=false:=by simp;omega
   have hltc:decide (k<ys.length)=false:=by simp;omega
   clear hval hzl hv hor hgo
   subst hc0
   go_wp2_with fail
   refine HW.out.mono ?_
   rintro e w3 ⟨rfl,hd,h⟩
   obtain rfl:=h.symm
   go_wp2_with fail
   go_ret
   exact ⟨A2,c2,rfl,hd,hbel⟩
set_option maxHeartbeats 2000000 in
theorem wminus_any (a m:Nat) (A Am:Option Addr) (c cm:Nat) (w:World) (hA:DigAt w A c a) (hM:DigAt w Am cm m) (hla:(ns a).length≤1000000) (hma:m≤a) :
  Calls Tryz.prog 130 #[.slice A (ns a).length c,.slice Am (ns m).length cm] w fun e w'=>∃ A' c',e=.returned (.slice A' (ns (a - m)).length c')∧DigAt w' A' c' (a - m)∧(∀ ad,A'=some ad→w.heap.size≤ad.block)∧Below w.heap.size w w':=by
 obtain ⟨hcells,hle,hcap⟩:=hA
 obtain ⟨hmc,hmle,hmcap⟩:=hM
 have hx:=digl_ns a
 have hy:=digl_ns m
 have hlm:=ns_length_mono hma
 have hxv:=Lib.hid (lw_ns a)
 have hyv:=Lib.hid (lw_ns m)
 generalize ns a=xs at *
 generalize ns m=us at *
 go_enter Tryz.func130,Tryz.ntmps130
 go_wp2_with fail
 go_loopw [5,6,7,8] (fun v cr i _ wr=>∃ (k:Nat) (ys:List Nat) (A':Option Addr) (c' borrow:Nat),k≤xs.length∧i=.int .i64 k∧v=.slice A' k c'∧cr=.int .i64 borrow∧OwnS wr w.heap.size 3 A' k c' (nums ys) ∧
   ys.length=k∧digl ys∧borrow≤1∧lw ys+lw (us.take k)=lw (xs.take k)+10 ^ k*borrow∧Below w.heap.size w wr)
  (fun _ _ i _ _=>xs.length - (intOf i).toNat)
 case atStart=>exact ⟨0,[],none,0,0,Nat.zero_le _,rfl,rfl,rfl,OwnS.nil _ _ _,rfl,digl_nil,by omega,by simp [lw],Below.refl _ _⟩
 case round =>
  obtain ⟨k,ys,A',c',borrow,hk,rfl,rfl,rfl,hown,hyl,hyy,hcr,hv,hbel⟩:=hrel
  by_cases hlt:k<xs.length
  ·have hxk:=atD_lt hx k
   have hyk:=atD_lt hy k
   obtain ⟨b,off,rfl,hb,hcell⟩:=(hcells.below hbel) (by rw [nums_length];omega)
   have hck:=Cells.num hcell k hlt
   have HB:=Lib.hid hcell
   have hmw:=hmc.below hbel
   have HY:=Lib.hid hyl
   have HS:=Lib.hid (fun d borrow'=>sub_step10 xs us ys k borrow d borrow' hyl hv)
   clear hyl hv hcell
   by_cases hneg:atN xs k<atN us k+borrow
   all_goals
    go_wp2_with fail
    go_quiet ((go_at_call 165;exact Calls.quiet_of_same (wdigit_any us Am cm k _ (by omega) hmle hmcap hmw)))
    have hown2:OwnS (wr.drewN ‹Nat›) w.heap.size 3 A' k c' (nums ys):=hown
    have hbel2:Below w.heap.size w (wr.drewN ‹Nat›):=below_drewN hbel _
    clear hown hbel hmw hck hcells hmc
    generalize wr.drewN ‹Nat›=w2 at *
   ·have hn1:(atN xs k:Int) - (atN us k:Int) - (borrow:Int)<0:=by omega
    go_wp2_with (at_builtin;refine wp_app1 el_ints rfl _ _ rfl w.heap.size _ _ _ _ _ _ rfl hown2 rfl rfl (by unfold maxLen;omega) (by omega) hbel2.size ?_;intro A2 c2 w1 hown1 hb1)
    go_roundw
    case rel =>
     refine ⟨k+1,ys ++ [atN xs k+10 - atN us k - borrow],A2,c2,1,by omega,by go_num,rfl,rfl,?_,by simp [HY.out],digl_snoc hyy (by omega),by omega,HS.out _ 1 (by omega),hbel2.trans hb1⟩
     rw [nums_snoc]
     have e:((atN xs k+10 - atN us k - borrow:Nat):Int)=(atN xs k:Int) - (atN us k:Int) - (borrow:Int)+10:=by omega
     rw [e];exact hown1
    case measure=>simp [intOf];omega
   ·have hn1:0≤(atN xs k:Int) - (atN us k:Int) - (borrow:Int):=by omega
    go_wp2_with (at_builtin;refine wp_app1 el_ints rfl _ _ rfl w.heap.size _ _ _ _ _ _ rfl hown2 rfl rfl (by unfold maxLen;omega) (by omega) hbel2.size ?_;intro A2 c2 w1 hown1 hb1)
    go_roundw
    case rel =>
     refine ⟨k+1,ys ++ [atN xs k - atN us k - borrow],A2,c2,0,by omega,by go_num,rfl,rfl,?_,by simp [HY.out],digl_snoc hyy (by omega),by omega,HS.out _ 0 (by omega),hbel2.trans hb1⟩
     rw [nums_snoc]
     have e:((atN xs k - atN us k - borrow:Nat):Int)=(atN xs k:Int) - (atN us k:Int) - (borrow:Int):=by omega
     rw [e];exact hown1
    case measure=>simp [intOf];omega
  ·obtain rfl:k=xs.length:=by omega
   have hres:lw ys=a - m:=by
    have h1:=hxv.out
    have h2:=hyv.out
    rw [List.take_of_length_le (Nat.le_refl _),List.take_of_length_le (by omega),h1,h2] at hv
    have h3:borrow=0:=by
     rcases Nat.eq_zero_or_pos borrow with h | h
     ·exact h
     ·have h4:=lw_lt ys hyy
      rw [hyl] at h4
      have:borrow=1:=by omega
      rw [this] at hv;omega
    rw [h3] at hv;omega
   have HW:=Lib.hid (wtrim_num ys (a - m) A' xs.length c' wr hyy hres hyl hown.cap.1 hown.cap.2 hown.cells)
   clear hres hyl hv
   go_wp2_with fail
   refine HW.out.mono ?_
   rintro e w3 ⟨rfl,hd,h⟩
   obtain rfl:=h.symm
   go_wp2_with fail
   go_ret
   exact ⟨A',c',rfl,hd,fun ad h=>by subst h;exact hown.fresh,hbel⟩
theorem small_mul {x y:Nat} (hx:x<10) (hy:y<10):x*y≤81:=Nat.mul_le_mul (show x≤9 by omega) (show y≤9 by omega)
set_option maxHeartbeats 2000000 in
theorem wtimes_any (a b:Nat) (A A':Option Addr) (c c':Nat) (w:World) (hA:DigAt w A c a) (hB:DigAt w A' c' b) (hla:(ns a).length≤1000000) (hlb:(ns b).length≤1000000) :
  Calls Tryz.prog 133 #[.slice A (ns a).length c,.slice A' (ns b).length c'] w fun e w'=>∃ A2 c2,e=.returned (.slice A2 (ns (a*b)).length c2)∧DigAt w' A2 c2 (a*b)∧Below w.heap.size w w':=by
 obtain ⟨hcx,hcl,hcm⟩:=hA
 obtain ⟨hcx',hcl',hcm'⟩:=hB
 have hx:=digl_ns a
 have hy:=digl_ns b
 have HX:=Lib.hid (lw_ns a)
 have HY:=Lib.hid (lw_ns b)
 generalize ns a=xs at *
 generalize ns b=ys at *
 go_enter Tryz.func133,Tryz.ntmps133
 go_wp2_with (refine wp_mkn el_ints rfl _ _ rfl w.heap.size _ .i64 .i64 _ _ (xs.length+ys.length) rfl rfl (by go_num) (by go_num) (by omega) (by unfold maxLen;omega) (Nat.le_refl _) rfl ?_;intro A0 w0 hown0 hb0)
 go_loopw [6,7,8,9] (fun i _ _ _ wr=>∃ (k:Nat) (zs:List Nat),k≤xs.length∧i=.int .i64 k∧OwnS wr w.heap.size 3 A0 (xs.length+ys.length) (xs.length+ys.length) (nums zs) ∧
   digl zs∧lw zs=lw (xs.take k)*lw ys∧(∀ j,k+ys.length≤j→atN zs j=0)∧Below w.heap.size w wr)
  (fun i _ _ _ _=>xs.length - (intOf i).toNat)
 case atStart=>exact ⟨0,List.replicate (xs.length+ys.length) 0,Nat.zero_le _,rfl,by rw [nums_replicate];exact hown0,digl_replicate _,by rw [lw_replicate];simp [lw],fun j _=>atN_replicate _ _,hb0⟩
 case round =>
  obtain ⟨i,zs,hi,rfl,hown,hz,hv,hzero,hbel⟩:=hrel
  have hzl:zs.length=xs.length+ys.length:=by have:=hown.len;rw [nums_length] at this;exact this
  have HZL:=Lib.hid hzl
  clear hzl
  by_cases hlt:i<xs.length
  ·obtain ⟨g,rfl,hg1,hg2,hgc,hgf⟩:=hown.at_ (by omega)
   have HV:=Lib.hid hv
   have HZ:=Lib.hid hzero
   clear hv hzero hgc hgf
   go_wp2_with fail
   go_loopw [7,8,9] (fun cr j _ w2=>∃ (k:Nat) (us:List Nat) (carry:Nat),k≤ys.length+1∧j=.int .i64 k∧cr=.int .i64 carry∧OwnS w2 w.heap.size 3 (some ⟨g,0,none⟩) (xs.length+ys.length) (xs.length+ys.length) (nums us) ∧
     digl us∧carry<10∧(k≤ys.length∨carry=0)∧lw us+10 ^ (i+k)*carry=lw (xs.take i)*lw ys+10 ^ i*atN xs i*lw (ys.take k)∧(∀ j,i+max k ys.length≤j→atN us j=0)∧Below w.heap.size w w2)
    (fun _ j _ _=>ys.length+1 - (intOf j).toNat)
   case atStart=>exact ⟨0,zs,0,Nat.zero_le _,rfl,rfl,hown,hz,by omega,.inl (Nat.zero_le _),by rw [HV.out];simp [lw],fun j hj=>HZ.out j (by omega),hbel⟩
   case round =>
    obtain ⟨k,us,carry,hk,rfl,rfl,hown2,hu,hcr,hor,hv2,hzero2,hbel2⟩:=hrel
    have hul:us.length=xs.length+ys.length:=by have:=hown2.len;rw [nums_length] at this;exact this
    have HUL:=Lib.hid hul
    have HG2:=Lib.hid (hown2.at_ (by omega))
    clear hul hown hz hbel
    obtain ⟨g',hg',hg3,hg4,hgc2,hgf2⟩:=HG2.out
    injection hg' with hg'
    injection hg' with hg' _ _
    subst hg'
    clear HG2
    have HO:=Lib.hid hor
    have HZ2:=Lib.hid hzero2
    by_cases hgo:k<ys.length∨0<carry
    ·have hky:k≤ys.length:=by rcases hor with h | h <;> omega
     obtain ⟨bx,offx,rfl,hbx,hcellx⟩:=(hcx.below hbel2) (by rw [nums_length];omega)
     have hci:=Cells.num hcellx i hlt
     have hld:wr.cell? ⟨g,i+k,none⟩=some (.int .i64 (atN us (i+k):Int)):=by
      rw [hgc2 (i+k) (by omega),nums_get us (i+k) (by have:=HUL.out;omega)]
     have hfr:=hgf2 (i+k)
     have hus:=atD_lt hu (i+k)
     have hxi:=atD_lt hx i
     have hyk:=atD_lt hy k
     have hmb:=small_mul hxi hyk
     have HS:=Lib.hid (mul_step10 us ys i k (atN xs i) carry _ (by have:=HUL.out;omega) hv2)
     have hcy:=hcx'.below hbel2
     have hq1:((atN xs i*atN ys k:Nat):Int)=(atN xs i:Int)*(atN ys k:Int):=Int.natCast_mul _ _
     have hp1:0≤(atN xs i:Int)*(atN ys k:Int):=by rw [← hq1];omega
     have hp2:(atN xs i:Int)*(atN ys k:Int)≤81:=by rw [← hq1];omega
     have HC0:=Lib.hid (show k=ys.length→(atN us (i+k)+atN xs i*atN ys k+carry) / 10=0 from fun h=>by
      rw [hzero2 (i+k) (by omega),atN_ge (xs:=ys) (k:=k) (by omega),Nat.mul_zero];omega)
     have e:(((atN us (i+k)+atN xs i*atN ys k+carry) % 10:Nat):Int)=((atN us (i+k):Int)+(atN xs i:Int)*(atN ys k:Int)+(carry:Int)) % 10:=by rw [← hq1];omega
     have HE:=Lib.hid e
     have e2:(((atN us (i+k)+atN xs i*atN ys k+carry) / 10:Nat):Int)=((atN us (i+k):Int)+(atN xs i:Int)*(atN ys k:Int)+(carry:Int)) / 10:=by rw [← hq1];omega
     have HE2:=Lib.hid e2
     have hlt10:(atN us (i+k)+atN xs i*atN ys k+carry) / 10<10:=by omega
     have HL10:=Lib.hid hlt10
     have hidx:i+k<xs.length+ys.length:=by omega
     clear hmb hv2 hzero2 hcellx hgc2 hq1 e e2 hor hgf2 hlt10
     have hstart:(∀ (wq:World),OwnS wq w.heap.size 3 (some ⟨g,0,none⟩) (xs.length+ys.length) (xs.length+ys.length) (nums us)→True):=fun _ _=>trivial
     clear hstart
     by_cases hkl:k<ys.length
     all_goals
      (first | (have hcpos:0<(carry:Int):=by omega) | skip)
      (first | (have hkd:decide (k<ys.length)=false:=by simpa using hkl) | skip)
      clear hgo
      go_wp2_with fail
      go_quiet ((go_at_call 165;exact Calls.quiet_of_same (wdigit_any ys A' c' k _ (by omega) hcl' hcm' hcy)))
      have hown3:OwnS (wr.drewN ‹Nat›) w.heap.size 3 (some ⟨g,0,none⟩) (xs.length+ys.length) (xs.length+ys.length) (nums us):=hown2
      have hbel3:Below w.heap.size w (wr.drewN ‹Nat›):=below_drewN hbel2 _
      have hld3:(wr.drewN ‹Nat›).cell? ⟨g,i+k,none⟩=some (.int .i64 (atN us (i+k):Int)):=hld
      have hfr3:(wr.drewN ‹Nat›).frozen? ⟨g,i+k,none⟩=false:=hfr
      clear hown2 hbel2 hld hfr hci hcy hcx hcx'
      generalize wr.drewN ‹Nat›=w3 at *
      have hst:=hown3.stored (i+k) (.int .i64 (((atN us (i+k)+atN xs i*atN ys k+carry) % 10:Nat):Int))
      rw [← nums_set] at hst
      have HST:=Lib.hid hst
      clear hst
      go_wp2_with fail
      go_roundw
      case rel =>
       refine ⟨k+1,us.set (i+k) ((atN us (i+k)+atN xs i*atN ys k+carry) % 10),(atN us (i+k)+atN xs i*atN ys k+carry) / 10,by omega,by go_num,by rw [HE2.out],?_,digl_set hu (by omega),HL10.out,?_,HS.out,?_,hbel3.setCell hg1 _⟩
       ·have:=HST.out
        rw [HE.out] at this
        exact this
       ·rcases Nat.lt_or_ge k ys.length with h | h
        ·exact .inl (by omega)
        ·exact .inr (HC0.out (by omega))
       ·intro j hj
        rw [atN_set _ _ _ _ (by have:=HUL.out;omega),if_neg (by omega)]
        exact HZ2.out j (by omega)
      case measure=>simp [intOf];omega
    ·have hc0:carry=0:=by omega
     have HN:=Lib.hid (show lw us=lw (xs.take (i+1))*lw ys by
      rw [hc0,Nat.mul_zero,Nat.add_zero,List.take_of_length_le (show ys.length≤k by omega)] at hv2
      rw [hv2,lw_take_succ,Nat.add_mul])
     have hcb:decide (0<(carry:Int))=false:=by simp;omega
     have hkd:decide (k<ys.length)=false:=by simp;omega
     subst hc0
     clear hv2 hzero2 hor hgo hgc2 hgf2
     go_wp2_with fail
     go_roundw
     case rel =>
      refine ⟨i+1,us,by omega,by go_num,hown2,hu,HN.out,?_,hbel2⟩
      intro j hj
      rcases HO.out with h | h
      ·exact HZ2.out j (by omega)
      ·exact HZ2.out j (by omega)
     case measure=>simp [intOf];omega
  ·obtain rfl:i=xs.length:=by omega
   have hval:lw zs=a*b:=by rw [hv,List.take_of_length_le (Nat.le_refl _),HX.out,HY.out]
   have HW:=Lib.hid (wtrim_num zs (a*b) A0 _ _ wr hz hval HZL.out hown.cap.1 hown.cap.2 hown.cells)
   clear hval hv hzero
   go_wp2_with fail
   refine HW.out.mono ?_
   rintro e w3 ⟨rfl,hd,h⟩
   obtain rfl:=h.symm
   go_wp2_with fail
   go_ret
   exact ⟨A0,_,rfl,hd,hbel⟩
theorem lw_drop (xs:List Nat) (k:Nat) (h:k<xs.length):lw (xs.drop k)=atN xs k+10*lw (xs.drop (k+1)):=by
 rw [List.drop_eq_getElem_cons h,lw];simp [atN,h]
theorem wdiv_step (xs zs:List Nat) (j b r m rest:Nat) (hj:j<xs.length) (hjz:j<zs.length) (hz0:atN zs j=0) (h:10 ^ (j+1)*lw (xs.drop (j+1))=lw zs*b+10 ^ (j+1)*r) (hm:atN xs j+10*r=m*b+rest) :
  10 ^ j*lw (xs.drop j)=lw (zs.set j m)*b+10 ^ j*rest:=by
 have h1:=lw_set zs j m hjz
 rw [hz0,Nat.mul_zero,Nat.add_zero] at h1
 rw [h1,lw_drop xs j hj,Nat.add_mul,Nat.mul_add]
 rw [Nat.pow_succ,Nat.mul_assoc,Nat.mul_assoc] at h
 have h2:=congrArg (10 ^ j * ·) hm
 simp only [Nat.mul_add] at h2
 rw [Nat.mul_assoc (10 ^ j) m b]
 omega
theorem set_same10 (zs:List Nat) (j:Nat) (h:atN zs j=0):zs.set j 0=zs:=by
 apply List.ext_getElem?
 intro i
 rw [List.getElem?_set]
 by_cases hij:j=i
 ·subst hij
  rw [if_pos rfl]
  unfold atN at h
  rw [List.getD_eq_getElem?_getD] at h
  by_cases hl:j<zs.length
  ·rw [if_pos hl,List.getElem?_eq_getElem hl]
   rw [List.getElem?_eq_getElem hl] at h
   simp at h;rw [h]
  ·rw [if_neg hl,List.getElem?_eq_none (by omega)]
 ·rw [if_neg hij]
theorem digl_cons {x:Nat} {xs:List Nat} (hx:x<10) (h:digl xs):digl (x :: xs):=by
 intro y hy
 rcases List.mem_cons.1 hy with rfl | hy
 ·exact hx
 ·exact h y hy
theorem nums_one10 (xs:List Nat):∀ u ∈ nums xs,u.oneCell'=true:=by
 intro u hu
 unfold nums at hu
 obtain ⟨x,_,rfl⟩:=List.mem_map.1 hu
 rfl
theorem ns_mul10_len {n b:Nat} (h:n<b*10):(ns n).length≤(ns b).length+1:=by
 have h1:=ns_length_le.1 (Nat.le_refl (ns b).length)
 refine ns_length_le.2 ?_
 rw [Nat.pow_succ];omega
set_option maxHeartbeats 2000000 in
theorem wdivide_any (a b:Nat) (A A':Option Addr) (c c':Nat) (w:World) (hA:DigAt w A c a) (hB:DigAt w A' c' b) (hla:(ns a).length≤100000) (hlb:(ns b).length≤100000) (hb0:0<b) :
  Calls Tryz.prog 128 #[.slice A (ns a).length c,.slice A' (ns b).length c'] w fun e w'=>∃ A1 c1 A2 c2,e=.returned (.tuple #[.slice A1 (ns (a / b)).length c1,.slice A2 (ns (a % b)).length c2]) ∧
   DigAt w' A1 c1 (a / b)∧DigAt w' A2 c2 (a % b)∧Below w.heap.size w w':=by
 obtain ⟨hcx,hcl,hcm⟩:=hA
 have hx:=digl_ns a
 have HX:=Lib.hid (lw_ns a)
 have HYL:=Lib.hid (fun n (h:n<b*10)=>ns_mul10_len h)
 have HMONO:=Lib.hid (fun n (h:n≤b)=>ns_length_mono h)
 have hdb:=digl_ns b
 have HLB:=Lib.hid (lw_ns b)
 obtain ⟨hcb,hlb2,hmb2⟩:=hB
 generalize ns a=xs at *
 generalize hys:ns b=ys at *
 have HYS:=Lib.hid hys
 clear hys
 go_enter Tryz.func128,Tryz.ntmps128
 go_wp2_with (refine wp_mkn el_ints rfl _ _ rfl w.heap.size _ .i64 .i64 _ _ xs.length rfl rfl (by go_num) (by go_num) (by omega) (by unfold maxLen;omega) (Nat.le_refl _) rfl ?_;intro A0 w0 hown0 hb0')
 go_loopw [7,8,9] (fun rs i _ wr=>∃ (k r:Nat) (zs:List Nat) (Ar:Option Addr) (cr:Nat),k≤xs.length∧i=.int .i64 ((k:Int) - 1)∧rs=.slice Ar (ns r).length cr∧DigAt wr Ar cr r∧r<b ∧
   OwnS wr w.heap.size 3 A0 xs.length xs.length (nums zs)∧digl zs∧10 ^ k*lw (xs.drop k)=lw zs*b+10 ^ k*r∧(∀ j,j<k→atN zs j=0)∧Below w.heap.size w wr)
  (fun _ i _ _=>(intOf i+1).toNat)
 case atStart=>exact ⟨xs.length,0,List.replicate xs.length 0,none,0,Nat.le_refl _,rfl,by rw [ns_zero];rfl,⟨by rw [ns_zero];exact Cells.nil _ _,by rw [ns_zero];exact Nat.le_refl _,by unfold maxLen;omega⟩,hb0,by rw [nums_replicate];exact hown0,digl_replicate _,by rw [List.drop_of_length_le (Nat.le_refl _),lw_replicate];simp [lw],fun j _=>atN_replicate _ _,hb0'⟩
 case round =>
  obtain ⟨k,r,zs,Ar,cr,hk,rfl,rfl,hr,hrb,hown,hz,hv,hzero,hbel⟩:=hrel
  have hzl:zs.length=xs.length:=by have:=hown.len;rw [nums_length] at this;exact this
  have HZL:=Lib.hid hzl
  have HV:=Lib.hid hv
  have HZ:=Lib.hid hzero
  clear hzl hv hzero
  by_cases hk0:k=0
  ·subst hk0
   have hval:lw zs=a / b∧r=a % b:=by
    have h1:=HV.out
    rw [Nat.pow_zero,Nat.one_mul,Nat.one_mul,List.drop_zero,HX.out] at h1
    constructor
    ·rw [h1,Nat.mul_comm,Nat.mul_add_div hb0,Nat.div_eq_of_lt hrb];omega
    ·rw [h1,Nat.mul_comm,Nat.mul_add_mod,Nat.mod_eq_of_lt hrb]
   have HW:=Lib.hid (wtrim_num zs (a / b) A0 _ _ wr hz hval.1 HZL.out hown.cap.1 hown.cap.2 hown.cells)
   have HR:=Lib.hid hval.2
   clear hval
   go_wp2_with fail
   refine HW.out.mono ?_
   rintro e w3 ⟨rfl,hd,h⟩
   obtain rfl:=h.symm
   go_wp2_with fail
   go_ret2
   exact ⟨A0,xs.length,Ar,cr,by rw [← HR.out];rfl,hd,by rw [← HR.out];exact hr,hbel⟩
  ·obtain ⟨j,rfl⟩:∃ j,k=j+1:=⟨k - 1,by omega⟩
   rw [show ((j+1:Nat):Int) - 1=(j:Int) from by omega]
   obtain ⟨bx,offx,rfl,hbx,hcellx⟩:=(hcx.below hbel) (by rw [nums_length];omega)
   have hcj:=Cells.num hcellx j (by omega)
   have hxj:=atD_lt hx j
   obtain ⟨x,hxx⟩:∃ x,x=atN xs j:=⟨_,rfl⟩
   rw [← hxx] at hcj hxj
   have HXX:=Lib.hid hxx
   have hlr:(ns r).length≤100000:=Nat.le_trans (HMONO.out r (Nat.le_of_lt hrb)) hlb
   have hcbw:=hcb.below hbel
   obtain ⟨n,hn⟩:∃ n,n=x+10*r:=⟨_,rfl⟩
   have hn10:n<b*10:=by omega
   have HN:=Lib.hid hn
   have hln:=HYL.out n hn10
   have hlw:lw (x :: ns r)=n:=by rw [lw,lw_ns,HN.out]
   have HLW:=Lib.hid hlw
   have hdl:digl (x :: ns r):=digl_cons hxj (digl_ns r)
   have hzj:=Lib.hid (HZ.out j (by omega))
   have hq:=Lib.hid (fun m rest hm=>wdiv_step xs zs j b r m rest (by omega) (by have:=HZL.out;omega) hzj.out HV.out hm)
   clear hcellx hk0 hxx hn hlw
   go_wp2_with (at_builtin;refine wp_appn el_ints rfl _ _ rfl wr.heap.size _ _ _ [.int .i64 (x:Int)] _ _ _ _ (nums (ns r)) rfl (OwnS.lit wr 3 #[.int .i64 (x:Int)] wr.heap.size 1 (Nat.le_refl _) rfl (by unfold maxLen;omega)) rfl (nums_length _) (hr.cells.below ((Below.refl _ _).alloc (Nat.le_refl _) _)) (nums_one10 _) (by unfold maxLen;omega) (by omega) (by simp) ?_;intro A3 c3 w1 hown1 hb1)
   refine (wtrim_num (x :: ns r) n A3 _ c3 _ hdl HLW.out (by simp;omega) hown1.cap.1 hown1.cap.2 (by have:=hown1.cells;simpa [nums] using this)).mono ?_
   rintro e w2 ⟨rfl,hr2,hw2⟩
   subst hw2
   obtain ⟨g,hA0,hg1,hg2,_⟩:=hown.at_ (by omega)
   subst hA0
   have hb2:Below wr.heap.size wr w2:=((Below.refl _ _).alloc (Nat.le_refl _) _).trans hb1
   have hown2:=hown.below hb2
   have hbel2:=hbel.trans (hb2.mono hbel.size)
   have hcbw2:=hcbw.below hb2
   have hfr3:∀ ad,A3=some ad→ad.block≠g:=fun ad h=>by subst h;have:=hown1.fresh;omega
   have HF3:=Lib.hid hfr3
   clear hown hbel hcbw hr hb2 hb1 hown1 hcj hfr3
   go_wp2_with fail
   go_loopw [7] (fun rs w3=>∃ (m rest:Nat) (Ar:Option Addr) (cr:Nat),rs=.slice Ar (ns rest).length cr∧DigAt w3 Ar cr rest∧rest≤n∧n=m*b+rest∧m≤9∧(∀ ad,Ar=some ad→ad.block≠g) ∧
     OwnS w3 w.heap.size 3 (some ⟨g,0,none⟩) xs.length xs.length (nums (zs.set j m))∧Below w.heap.size w w3)
    (fun _ w3=>10 - (intOf ((w3.cell? ⟨g,j,none⟩).getD (.int .i64 0))).toNat)
   case atStart=>exact ⟨0,n,A3,c3,rfl,hr2,Nat.le_refl _,by omega,by omega,HF3.out,by rw [set_same10 zs j hzj.out];exact hown2,hbel2⟩
   case round =>
    obtain ⟨m,rest,Ar2,cr2,rfl,hrs,hrn,hmn,hm9,hne,hown3,hbel3⟩:=hrel
    have HNE:=Lib.hid hne
    have HMN:=Lib.hid hmn
    have hlrest:(ns rest).length≤1000000:=by have:=HYL.out rest (by omega);omega
    have hbc:=hcb.below hbel3
    have hsl:(zs.set j m).length=xs.length:=by rw [List.length_set];exact HZL.out
    have HSL:=Lib.hid hsl
    obtain ⟨g',hg',_,hgw,hgc,hgf⟩:=hown3.at_ (by omega)
    injection hg' with hg'
    injection hg' with hg' _ _
    subst hg'
    have hcellj:wr.cell? ⟨g,j,none⟩=some (.int .i64 (m:Int)):=by
     rw [hgc j (by omega),nums_get _ j (by omega),atN_set _ _ _ _ (by have:=HZL.out;omega),if_pos rfl]
    have hfrj:=hgf j
    have hcmp:=wcompare_any (ns rest) (ns b) Ar2 A' cr2 c' wr (digl_ns rest) (digl_ns b) hlrest (by rw [HYS.out];omega) hrs.le (by rw [HYS.out];exact hlb2) hrs.cap hmb2 hrs.cells (by rw [HYS.out];exact hbc)
    rw [lw_ns,lw_ns,HYS.out] at hcmp
    clear hne hmn hsl hgc hgf hown2 hbel2 hr2
    by_cases hge:b≤rest
    ·obtain ⟨o,ho,hop⟩:∃ o,ordI rest b=o∧0≤o:=by
      refine ⟨_,rfl,?_⟩
      unfold ordI;rw [if_neg (by omega)];split <;> omega
     rw [ho] at hcmp
     have HC:=Lib.hid hcmp
     have hm8:m≤8:=by
      rcases Nat.lt_or_ge 8 m with h | h
      ·have h1:=Nat.mul_le_mul_right b (show 9≤m by omega)
       have:=HMN.out
       omega
      ·exact h
     have hmin:=wminus_any rest b Ar2 A' cr2 c' wr hrs ⟨by rw [HYS.out];exact hbc,by rw [HYS.out];exact hlb2,hmb2⟩ (by omega) hge
     rw [HYS.out] at hmin
     have HM:=Lib.hid hmin
     have HM2:=Lib.hid (show n=(m+1)*b+(rest - b) by have:=HMN.out;rw [Nat.add_mul];omega)
     clear ho hcmp hmin hbc hrs
     go_wp2_with fail
     refine HC.out.mono ?_;rintro e w' ⟨rfl,h⟩
     obtain rfl:=h.symm
     go_wp2_with fail
     refine HM.out.mono ?_
     rintro e w4 ⟨A5,c5,rfl,hd5,hfr5,hb5⟩
     have hcellj4:w4.cell? ⟨g,j,none⟩=some (.int .i64 (m:Int)):=(hb5.cell (p:=⟨g,j,none⟩) hgw).trans hcellj
     have hfrj4:w4.frozen? ⟨g,j,none⟩=false:=(hb5.frozen (p:=⟨g,j,none⟩) hgw).trans hfrj
     have hown4:=hown3.below hb5
     have hbel4:=hbel3.trans (hb5.mono hbel3.size)
     have HCJ:=Lib.hid hcellj
     have hst:=hown4.stored j (.int .i64 ((m+1:Nat):Int))
     rw [← nums_set,List.set_set] at hst
     have HST:=Lib.hid hst
     have HF5:=Lib.hid hfr5
     clear hst hcellj hfrj hown3 hbel3 hb5 hfr5 HC HM
     go_wp2_with fail
     go_roundw
     case rel =>
      refine ⟨m+1,rest - b,A5,c5,rfl,hd5.setOther (fun ad h=>by have:=HF5.out ad h;omega) j _,by omega,HM2.out,by omega,fun ad h=>by have:=HF5.out ad h;omega,?_,hbel4.setCell hg1 _⟩
      exact HST.out
     case measure =>
      rw [World.cell?_setCell_same' _ _ _ (by rw [hcellj4];rfl),HCJ.out]
      simp [intOf]
      omega
    ·obtain ⟨o,ho,hop⟩:∃ o,ordI rest b=o∧o<0:=by
      refine ⟨_,rfl,?_⟩
      unfold ordI;rw [if_pos (by omega)];omega
     rw [ho] at hcmp
     have HC:=Lib.hid hcmp
     have hop':¬ 0≤o:=by omega
     have HQ:=Lib.hid (hq.out m rest (by rw [← HXX.out,← HN.out];exact HMN.out))
     clear ho hcmp hbc hcellj hfrj
     go_wp2_with fail
     refine HC.out.mono ?_;rintro e w' ⟨rfl,h⟩
     obtain rfl:=h.symm
     go_wp2_with fail
     go_roundw
     case rel =>
      refine ⟨j,rest,zs.set j m,Ar2,cr2,by omega,by go_num,rfl,hrs,by omega,hown3,digl_set hz (by omega),HQ.out,?_,hbel3⟩
      intro i hi
      rw [atN_set _ _ _ _ (by have:=HZL.out;omega),if_neg (by omega)]
      exact HZ.out i (by omega)
     case measure=>simp [intOf]
end Go.Proofs.YtmppmdmekomjbaaGreatDoor

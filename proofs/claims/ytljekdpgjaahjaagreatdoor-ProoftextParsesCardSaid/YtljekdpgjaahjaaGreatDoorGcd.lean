/- nat.Gcd. -/
import Derived.Test.YtljekdpgjaahjaaGreatDoorG9
namespace Go.Proofs.YtljekdpgjaahjaaGreatDoor
open Go.RowKit Num
set_option linter.unusedVariables false
attribute [local go_sem] B_size B_get B_toList B_mk B_extract
attribute [local go_sem high] run_max2
def gcdS (a b:List UInt8):List UInt8:=if errT a b=0 then resS (Nat.gcd (val a) (val b)) else []
def gcdE (a b:List UInt8):Int:=if errT a b=0 then resE (Nat.gcd (val a) (val b)) else errT a b
theorem gcd_step {p q g:Nat} (hq:0<q) (h:Nat.gcd p q=g):Nat.gcd q (p % q)=g:=by
 rw [← h,Nat.gcd_comm p q,Nat.gcd_comm q (p % q),← Nat.gcd_rec]
set_option maxHeartbeats 1000000 in
theorem gcd_any (a b:List UInt8) (w:World) (ha:a.length≤maxLen) (hb:b.length≤maxLen) (ht:Tab w) :
  Calls Tryz.prog 60 #[.string (B a),.string (B b)] w fun e w'=>e=.returned (.tuple #[.string (B (gcdS a b)),.int .i64 (gcdE a b)])∧Below w.heap.size w w':=by
 by_cases he:errT a b=0
 ·obtain ⟨h1,h2,h3,h4⟩:=errT_zero.1 he
  have HR:=Lib.hid (show gcdS a b=resS (Nat.gcd (val a) (val b))∧gcdE a b=resE (Nat.gcd (val a) (val b)) from ⟨if_pos he,if_pos he⟩)
  have hla:=nl_len_of_text h1 h3
  have hlb:=nl_len_of_text h2 h4
  clear he
  go_enter Tryz.func60,Tryz.ntmps60
  go_wp2_with fail
  refine (two_ok a b _ h1 h2 h3 h4).mono ?_
  rintro e w1 ⟨A,c,A',c',rfl,hA,hA',hb1⟩
  obtain ⟨g,hg⟩:∃ g,Nat.gcd (val a) (val b)=g:=⟨_,rfl⟩
  have HG:=Lib.hid hg
  go_wp2_with fail
  go_loopg [6,7] (val b) (fun gk x y wr=>∃ (p q:Nat) (A1:Option Addr) (c1:Nat) (A2:Option Addr) (c2:Nat),x=.slice A1 (nl p).length c1∧y=.slice A2 (nl q).length c2∧NumAt wr A1 c1 p∧NumAt wr A2 c2 q∧Nat.gcd p q=g ∧
   q≤gk∧(nl p).length≤4096∧(nl q).length≤4096∧Below w.heap.size w wr)
  case atStart=>exact ⟨val a,val b,A,c,A',c',rfl,rfl,hA,hA',hg,Nat.le_refl _,hla,hlb,hb1⟩
  case round =>
   obtain ⟨p,q,A1,c1,A2,c2,rfl,rfl,hP,hQ,hgc,hqk,hpl,hql,hbel⟩:=hrel
   clear hg
   have HGC:=Lib.hid hgc
   clear hgc
   by_cases hq0:q=0
   ·have hlen:=Lib.hid (show (nl q).length=0 by rw [hq0,nl_zero];rfl)
    have hp:p=g:=by have:=HGC.out;rw [hq0,Nat.gcd_zero_right] at this;exact this
    have HPG:=Lib.hid hp
    clear hp hq0
    rw [hlen.out]
    go_wp2_with fail
    refine (result_any p A1 c1 _ hP (by omega) (ht.below hbel)).mono ?_
    rintro e w3 ⟨rfl,hb3⟩
    go_wp2_with fail
    go_ret2
    exact ⟨by rw [HR.out.1,HR.out.2,HG.out,HPG.out];rfl,hbel.trans (hb3.mono hbel.size)⟩
   ·have hpos:0<q:=by omega
    have hn1:0<(nl q).length:=List.length_pos_iff.2 (fun e=>hq0 (nl_eq_nil.1 e))
    have hml:=Nat.mod_lt p hpos
    have hq2:=nl_length_mono (Nat.le_of_lt hml)
    have HS:=Lib.hid (gcd_step hpos HGC.out)
    clear hq0
    go_wp2_with fail
    refine (divide_any p q A1 A2 c1 c2 _ hP hQ (by omega) (by omega) hpos).mono ?_
    rintro e w2 ⟨A3,c3,A4,c4,rfl,hn3,hn4,hb2⟩
    go_wp2_with fail
    go_roundg (p % q)
    case measure=>omega
    case rel=>exact ⟨q,p % q,A2,c2,A4,c4,rfl,rfl,hQ.below hb2,hn4,HS.out,Nat.le_refl _,hql,by omega,hbel.trans (hb2.mono hbel.size)⟩
 ·have HR:=Lib.hid (show gcdS a b=[]∧gcdE a b=errT a b from ⟨if_neg he,if_neg he⟩)
  have hne:(errT a b != 0)=true:=by simpa using he
  go_enter Tryz.func60,Tryz.ntmps60
  go_wp2_with fail
  refine (two_err a b _ ha hb he).mono ?_
  rintro e w1 ⟨rfl,rfl⟩
  clear he
  go_wp2_with fail
  go_ret2
  exact ⟨by rw [HR.out.1,HR.out.2];rfl,Below.refl _ _⟩
end Go.Proofs.YtljekdpgjaahjaaGreatDoor

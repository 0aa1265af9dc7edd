/- The reference of ratio: Make, ordered, Compare, Sign, Floor, Ceil, Of. (Printed by wip/rref5.py.) -/
import Derived.Test.YtmppmdmekomjbaaGreatDoorRRef4
import Derived.Test.YtmppmdmekomjbaaGreatDoorG48
namespace Go.Proofs.YtmppmdmekomjbaaGreatDoor
open Go.RowKit Num
set_option linter.unusedVariables false
attribute [local go_sem] B_size B_get B_toList B_mk B_extract B_append
attribute [local go_sem high] run_max2
set_option maxHeartbeats 4000000 in
theorem rordered_any (x0:Int) (y0:Nat) (z0:Int) (v0:Nat) (w:World) (hy0:0<y0) (hv0:0<v0) (hsz0:dl x0≤4096∧(dec y0).length≤4096∧dl z0≤4096∧(dec v0).length≤4096) :
  Calls Tryz.prog 58 #[.string (B (decI x0)),.string (B (dec y0)),.string (B (decI z0)),.string (B (dec v0))] w fun e w'=>e=.returned (.int .i64 (ordI (x0*v0) (z0*y0)))∧Below w.heap.size w w':=by
 go_enter Tryz.func58,Tryz.ntmps58
 simp only [B_mk]
 go_wp2_with fail
 go_loopw [0,1,2,3,9,10,11,12,13,14,15,16] (fun p q r s t _ _ _ _ _ _ _ wr=>∃ (x:Int) (y:Nat) (z:Int) (v:Nat) (k:Int),p=.string (B (decI x))∧q=.string (B (dec y))∧r=.string (B (decI z))∧s=.string (B (dec v))∧t=.int .i64 k∧0<y∧0<v∧(dl x≤4096∧(dec y).length≤4096∧dl z≤4096∧(dec v).length≤4096)∧k*ordI (x*v) (z*y)=ordI (x0*v0) (z0*y0)∧(k=1∨k = -1)∧Below w.heap.size w wr) (fun _ q _ _ _ _ _ _ _ _ _ _ _=>strVal q)
 case atStart=>exact ⟨x0,y0,z0,v0,1,rfl,rfl,rfl,rfl,rfl,hy0,hv0,hsz0,Int.one_mul _,.inl rfl,Below.refl _ _⟩
 case round =>
  obtain ⟨x,y,z,v,k,rfl,rfl,rfl,rfl,rfl,hy,hv,hsz,hk,hk1,hbel⟩:=hrel
  have HK:=Lib.hid hk
  clear hk
  have HD1:=Lib.hid (fun w=>wrdivq_any x y w hsz.1 hsz.2.1 hy)
  have HD2:=Lib.hid (fun w=>wrdivq_any z v w hsz.2.2.1 hsz.2.2.2 hv)
  have l1:(decI (x / (y:Int))).length≤100000:=by have:=dl_len (x / (y:Int));have:=dl_mono (Int.natAbs_ediv_le_natAbs x y);omega
  have l2:(decI (z / (v:Int))).length≤100000:=by have:=dl_len (z / (v:Int));have:=dl_mono (Int.natAbs_ediv_le_natAbs z v);omega
  have HCM:=Lib.hid (fun w=>wrcompare_any (decI (x / (y:Int))) (decI (z / (v:Int))) w l1 l2)
  have hyi:(0:Int)<y:=by omega
  have hvi:(0:Int)<v:=by omega
  have hm1:=Int.emod_nonneg x (show (y:Int)≠0 by omega)
  have hm2:=Int.emod_lt_of_pos x hyi
  have hm3:=Int.emod_nonneg z (show (v:Int)≠0 by omega)
  have hm4:=Int.emod_lt_of_pos z hvi
  clear l1 l2
  rcases Int.lt_trichotomy (x / (y:Int)) (z / (v:Int)) with hlt | heq | hgt
  ·have HCV:=Lib.hid (show cmpIS (decI (x / (y:Int))) (decI (z / (v:Int))) = -1 by rw [cmp_dec];unfold ordI;rw [if_pos hlt])
   have HE:=Lib.hid (eu_less hyi hvi hlt)
   clear hlt
   go_wp2_with fail
   refine (HD1.out wr).mono ?_
   rintro e w2 ⟨rfl,hb2⟩
   have a2:=hbel.trans (hb2.mono hbel.size)
   go_wp2_with fail
   refine (HD2.out w2).mono ?_
   rintro e w3 ⟨rfl,hb3⟩
   have a3:=a2.trans (hb3.mono a2.size)
   go_wp2_with fail
   refine (HCM.out w3).mono ?_
   rw [HCV.out]
   rintro e w4 ⟨rfl,hb4⟩
   have a4:=a3.trans (hb4.mono a3.size)
   go_wp2_with fail
   go_ret
   exact ⟨ret_int (by rw [← HK.out,HE.out];omega),a4⟩
  ·have HCV:=Lib.hid (show cmpIS (decI (x / (y:Int))) (decI (z / (v:Int)))=0 by rw [cmp_dec,heq];unfold ordI;rw [if_neg (Int.lt_irrefl _),if_neg (Int.lt_irrefl _)])
   have HE:=Lib.hid (ecmp_step hy hv heq)
   clear heq
   by_cases hx0:x % (y:Int)=0 <;> by_cases hz0:z % (v:Int)=0
   ·have hx':(decI (x % (y:Int)) == [48])=true:=by rw [hx0,decI_zero];rfl
    have hz':(decI (z % (v:Int)) == [48])=true:=by rw [hz0,decI_zero];rfl
    have HF:=Lib.hid (show ordI (x*v) (z*y)=0 by rw [HE.out,hx0,hz0];exact eu_zz)
    clear hx0 hz0 hm1 hm2 hm3 hm4
    go_wp2_with fail
    refine (HD1.out wr).mono ?_
    rintro e w2 ⟨rfl,hb2⟩
    have a2:=hbel.trans (hb2.mono hbel.size)
    go_wp2_with fail
    refine (HD2.out w2).mono ?_
    rintro e w3 ⟨rfl,hb3⟩
    have a3:=a2.trans (hb3.mono a2.size)
    go_wp2_with fail
    refine (HCM.out w3).mono ?_
    rw [HCV.out]
    rintro e w4 ⟨rfl,hb4⟩
    have a4:=a3.trans (hb4.mono a3.size)
    go_wp2_with fail
    go_ret
    exact ⟨ret_int (by rw [← HK.out,HF.out,Int.mul_zero]),a4⟩
   ·have hx':(decI (x % (y:Int)) == [48])=true:=by rw [hx0,decI_zero];rfl
    have hz':(decI (z % (v:Int)) == [48])=false:=by rw [beq_eq_false_iff_ne];exact fun e=>hz0 (decI_eq_zero.1 e)
    have HF:=Lib.hid (show ordI (x*v) (z*y) = -1 by rw [HE.out,hx0];exact eu_zp hyi (by omega))
    clear hx0 hz0 hm1 hm2 hm3 hm4
    go_wp2_with fail
    refine (HD1.out wr).mono ?_
    rintro e w2 ⟨rfl,hb2⟩
    have a2:=hbel.trans (hb2.mono hbel.size)
    go_wp2_with fail
    refine (HD2.out w2).mono ?_
    rintro e w3 ⟨rfl,hb3⟩
    have a3:=a2.trans (hb3.mono a2.size)
    go_wp2_with fail
    refine (HCM.out w3).mono ?_
    rw [HCV.out]
    rintro e w4 ⟨rfl,hb4⟩
    have a4:=a3.trans (hb4.mono a3.size)
    go_wp2_with fail
    go_ret
    exact ⟨ret_int (by rw [← HK.out,HF.out];omega),a4⟩
   ·have hx':(decI (x % (y:Int)) == [48])=false:=by rw [beq_eq_false_iff_ne];exact fun e=>hx0 (decI_eq_zero.1 e)
    have hz':(decI (z % (v:Int)) == [48])=true:=by rw [hz0,decI_zero];rfl
    have HF:=Lib.hid (show ordI (x*v) (z*y)=1 by rw [HE.out,hz0];exact eu_pz hvi (by omega))
    clear hx0 hz0 hm1 hm2 hm3 hm4
    go_wp2_with fail
    refine (HD1.out wr).mono ?_
    rintro e w2 ⟨rfl,hb2⟩
    have a2:=hbel.trans (hb2.mono hbel.size)
    go_wp2_with fail
    refine (HD2.out w2).mono ?_
    rintro e w3 ⟨rfl,hb3⟩
    have a3:=a2.trans (hb3.mono a2.size)
    go_wp2_with fail
    refine (HCM.out w3).mono ?_
    rw [HCV.out]
    rintro e w4 ⟨rfl,hb4⟩
    have a4:=a3.trans (hb4.mono a3.size)
    go_wp2_with fail
    go_ret
    exact ⟨ret_int (by rw [← HK.out,HF.out];omega),a4⟩
   ·have hx':(decI (x % (y:Int)) == [48])=false:=by rw [beq_eq_false_iff_ne];exact fun e=>hx0 (decI_eq_zero.1 e)
    have hz':(decI (z % (v:Int)) == [48])=false:=by rw [beq_eq_false_iff_ne];exact fun e=>hz0 (decI_eq_zero.1 e)
    have HX:=Lib.hid (show decI (x % (y:Int))=dec (x % (y:Int)).toNat∧((x % (y:Int)).toNat:Int)=x % (y:Int)∧0<(x % (y:Int)).toNat∧(x % (y:Int)).toNat<y from ⟨by rw [← decI_nat];congr 1;omega,by omega,by omega,by omega⟩)
    have HZ:=Lib.hid (show decI (z % (v:Int))=dec (z % (v:Int)).toNat∧((z % (v:Int)).toNat:Int)=z % (v:Int)∧0<(z % (v:Int)).toNat∧(z % (v:Int)).toNat<v from ⟨by rw [← decI_nat];congr 1;omega,by omega,by omega,by omega⟩)
    have HN:=Lib.hid (show dl (y:Int)≤4096∧(dec (x % (y:Int)).toNat).length≤4096∧dl (v:Int)≤4096∧(dec (z % (v:Int)).toNat).length≤4096 from
     ⟨by rw [dl_nat];exact hsz.2.1,Nat.le_trans (length_dec_mono (Nat.le_of_lt HX.out.2.2.2)) hsz.2.1,by rw [dl_nat];exact hsz.2.2.2,Nat.le_trans (length_dec_mono (Nat.le_of_lt HZ.out.2.2.2)) hsz.2.2.2⟩)
    have HF:=Lib.hid (show ordI (x*v) (z*y) = -(ordI ((y:Int)*(z % (v:Int)).toNat) ((v:Int)*(x % (y:Int)).toNat)) by rw [HE.out,HZ.out.2.1,HX.out.2.1];exact eu_turn)
    clear hx0 hz0 hm1 hm2 hm3 hm4
    go_wp2_with fail
    refine (HD1.out wr).mono ?_
    rintro e w2 ⟨rfl,hb2⟩
    have a2:=hbel.trans (hb2.mono hbel.size)
    go_wp2_with fail
    refine (HD2.out w2).mono ?_
    rintro e w3 ⟨rfl,hb3⟩
    have a3:=a2.trans (hb3.mono a2.size)
    go_wp2_with fail
    refine (HCM.out w3).mono ?_
    rw [HCV.out]
    rintro e w4 ⟨rfl,hb4⟩
    have a4:=a3.trans (hb4.mono a3.size)
    go_wp2_with fail
    go_round
    case rel =>
     exact ⟨(y:Int),(x % (y:Int)).toNat,(v:Int),(z % (v:Int)).toNat,-k,by rw [decI_nat],by rw [HX.out.1],by rw [decI_nat],by rw [HZ.out.1],rfl,HX.out.2.2.1,HZ.out.2.2.1,HN.out,by rw [← HK.out,HF.out,Int.neg_mul,Int.mul_neg],by omega,a4⟩
    case measure=>rw [HX.out.1,strVal_B,strVal_B,val_dec,val_dec];exact HX.out.2.2.2
  ·have HCV:=Lib.hid (show cmpIS (decI (x / (y:Int))) (decI (z / (v:Int)))=1 by rw [cmp_dec];unfold ordI;rw [if_neg (by omega),if_pos hgt])
   have HE:=Lib.hid (eu_more hyi hvi hgt)
   clear hgt
   go_wp2_with fail
   refine (HD1.out wr).mono ?_
   rintro e w2 ⟨rfl,hb2⟩
   have a2:=hbel.trans (hb2.mono hbel.size)
   go_wp2_with fail
   refine (HD2.out w2).mono ?_
   rintro e w3 ⟨rfl,hb3⟩
   have a3:=a2.trans (hb3.mono a2.size)
   go_wp2_with fail
   refine (HCM.out w3).mono ?_
   rw [HCV.out]
   rintro e w4 ⟨rfl,hb4⟩
   have a4:=a3.trans (hb4.mono a3.size)
   go_wp2_with fail
   go_ret
   exact ⟨ret_int (by rw [← HK.out,HE.out];omega),a4⟩
set_option maxRecDepth 100000 in
theorem rqcmp_any (a b:List UInt8) (w:World) (ha:a.length≤1000000) (hb:b.length≤1000000) :
  Calls Tryz.prog 18 #[.string (B a),.string (B b)] w fun e w'=>e=.returned (.int .i64 (cmpQ a b))∧Below w.heap.size w w':=by
 have HT:=Lib.hid (fun w=>rboth_any a b w ha hb)
 by_cases h0:errQ a b=0
 ·have hr:=errQ_zero.1 h0
  have pa:=rq_parts hr.1
  have pb:=rq_parts hr.2
  have HS:=Lib.hid (show ∀ s,twoS a b s=s by intro s;unfold twoS;rw [if_pos h0])
  rw [HS.out,HS.out,HS.out,HS.out,h0,pa.1,pa.2.1,pb.1,pb.2.1] at HT
  have HO:=Lib.hid (fun w=>rordered_any (qn a) (qd a) (qn b) (qd b) w pa.2.2.1 pb.2.2.1 ⟨pa.2.2.2.1,pa.2.2.2.2.1,pb.2.2.2.1,pb.2.2.2.2.1⟩)
  rw [show cmpQ a b=ordI (qn a*qd b) (qn b*qd a) by unfold cmpQ;rw [if_pos h0]]
  clear pa pb hr HS h0
  generalize ordI (qn a*qd b) (qn b*qd a)=k at *
  generalize decI (qn a)=p at *
  generalize decI (qn b)=r at *
  generalize dec (qd a)=q at *
  generalize dec (qd b)=u at *
  go_enter Tryz.func18,Tryz.ntmps18
  go_wp2_with fail
  refine (HT.out w).mono ?_
  rintro e w1 ⟨rfl,hb1⟩
  go_wp2_with fail
  refine (HO.out _).mono ?_
  rintro e w2 ⟨rfl,hb2⟩
  go_wp2_with fail
  go_ret
  exact ⟨rfl,(hb1.trans ((new_below w1 _).mono hb1.size)).trans (hb2.mono (Nat.le_trans hb1.size (new_below w1 _).size))⟩
 ·have he3:errQ a b=3:=by unfold errQ at h0 ⊢;split <;> simp_all
  have HS:=Lib.hid (show ∀ s,twoS a b s=[] by intro s;unfold twoS;rw [if_neg h0])
  rw [HS.out,HS.out,HS.out,HS.out,he3] at HT
  rw [show cmpQ a b=0 by unfold cmpQ;rw [if_neg h0]]
  clear he3 h0
  go_enter Tryz.func18,Tryz.ntmps18
  go_wp2_with fail
  refine (HT.out w).mono ?_
  rintro e w1 ⟨rfl,hb1⟩
  go_wp2_with fail
  go_ret
  exact ⟨rfl,hb1.trans ((new_below w1 _).mono hb1.size)⟩
theorem rqsign_any (a:List UInt8) (w:World) (ha:a.length≤1000000) :
  Calls Tryz.prog 54 #[.string (B a)] w fun e w'=>e=.returned (.int .i64 (signQ a))∧Below w.heap.size w w':=by
 have HC:=Lib.hid (fun w=>rqcmp_any a [48] w ha (by decide))
 rw [cmpQ_zero] at HC
 go_enter Tryz.func54,Tryz.ntmps54
 simp only [B_mk]
 go_wp2_with fail
 refine (HC.out w).mono ?_
 rintro e w1 ⟨rfl,hb1⟩
 go_wp2_with fail
 go_ret
 exact ⟨rfl,hb1⟩
theorem rqof_any (z:Int) (w:World) (hz:fits z) :
  Calls Tryz.prog 20 #[.int .i64 z] w fun e w'=>e=.returned (.string (B (decI z)))∧Below w.heap.size w w':=by
 go_enter Tryz.func20,Tryz.ntmps20
 go_wp2_with fail
 refine (wrof_any z w hz).mono ?_
 rintro e w1 ⟨rfl,hb1⟩
 go_wp2_with fail
 go_ret
 exact ⟨rfl,hb1⟩
end Go.Proofs.YtmppmdmekomjbaaGreatDoor

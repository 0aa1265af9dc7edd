/- ratio: Sign, Floor, Ceil, Compare. (Printed by wip/rprog4.py.) -/
import Derived.Test.YtmppmdmekomjbaaGreatDoorG47
import Derived.Test.YtmppmdmekomjbaaGreatDoorG46
import Derived.Test.YtmppmdmekomjbaaGreatDoorG12
namespace Go.Proofs.YtmppmdmekomjbaaGreatDoor
open Go.RowKit Num
set_option linter.unusedVariables false
attribute [local go_sem] B_size B_get B_toList B_mk B_extract B_append
attribute [local go_sem high] run_max2
theorem qsign_any (l:List UInt8) (w:World) (hl:l.length≤1000000) (he:Env w) :
  Calls Tryz.prog 66 #[.string (B l)] w fun e w'=>e=.returned (.int .i64 (signQ l))∧Below w.heap.size w w':=by
 have hln:=numT_len l
 have HSP:=Lib.hid (fun w hm=>qsplit_any l w hl hm)
 have HR1:=Lib.hid (rq_any l w hl he)
 have HS:=Lib.hid (fun w=>psign_any (numT l) w (maxLen_le (by omega)))
 cases h1:rightQ l
 ·have HE:=Lib.hid (show signQ l=0 by unfold signQ;rw [h1];rfl)
  rw [h1] at HR1
  go_enter Tryz.func66,Tryz.ntmps66
  go_wp2_with fail
  refine HR1.out.mono ?_
  rintro e w1 ⟨rfl,hb1⟩
  go_wp2_with fail
  go_ret
  exact ⟨ret_int HE.out.symm,hb1⟩
 ·have HE:=Lib.hid (show signQ l=signIS (numT l) by unfold signQ signIS;rw [h1,(rq_parts h1).1,if_pos rfl,if_pos (rightI_decI _),valI_decI])
  rw [h1] at HR1
  go_enter Tryz.func66,Tryz.ntmps66
  go_wp2_with fail
  refine HR1.out.mono ?_
  rintro e w1 ⟨rfl,hb1⟩
  go_wp2_with fail
  refine (HSP.out w1 (he.2.below hb1)).mono ?_
  rintro e w2 ⟨rfl,hb2⟩
  go_wp2_with fail
  refine (HS.out w2).mono ?_;rintro e w' ⟨rfl,h⟩;obtain rfl:=h.symm
  go_wp2_with fail
  go_ret
  exact ⟨ret_int HE.out.symm,hb1.trans (hb2.mono hb1.size)⟩
def strVal:Value→Nat
 | .string b=>val b.data.toList
 | _=>0
theorem strVal_B (l:Str):strVal (.string (B l))=val l:=by simp [strVal,B]
theorem cmp_dec {x y:Int}:cmpIS (decI x) (decI y)=ordI x y:=by unfold cmpIS;rw [if_pos ⟨rightI_decI _,rightI_decI _⟩,valI_decI,valI_decI]
theorem ecmp_step {x z:Int} {y v:Nat} (hy:0<y) (hv:0<v) (h:x / (y:Int)=z / (v:Int)):ordI (x*v) (z*y)=ordI (x % (y:Int)*v) (z % (v:Int)*y):=eu_same (by omega) (by omega) h
set_option maxHeartbeats 4000000 in
theorem qcmp_any (a b:List UInt8) (w:World) (ha:a.length≤1000000) (hb:b.length≤1000000) (he:Env w) :
  Calls Tryz.prog 109 #[.string (B a),.string (B b)] w fun e w'=>e=.returned (.int .i64 (cmpQ a b))∧Below w.heap.size w w':=by
 have HT:=Lib.hid (qtwo_any a b w ha hb he)
 have ht:=he.1
 by_cases h0:errQ a b=0
 ·have hr:=errQ_zero.1 h0
  have pa:=rq_parts hr.1
  have pb:=rq_parts hr.2
  have HS:=Lib.hid (show ∀ s,twoS a b s=s by intro s;unfold twoS;rw [if_pos h0])
  have HC:=Lib.hid (show cmpQ a b=ordI (qn a*qd b) (qn b*qd a) by unfold cmpQ;rw [if_pos h0])
  rw [HS.out,HS.out,HS.out,HS.out,h0,pa.1,pa.2.1,pb.1,pb.2.1] at HT
  have HB:=Lib.hid (show dl (qn a)≤4096∧(dec (qd a)).length≤4096∧dl (qn b)≤4096∧(dec (qd b)).length≤4096 from ⟨pa.2.2.2.1,pa.2.2.2.2.1,pb.2.2.2.1,pb.2.2.2.2.1⟩)
  have hpa:=pa.2.2.1
  have hpb:=pb.2.2.1
  clear pa pb hr h0
  go_enter Tryz.func109,Tryz.ntmps109
  simp only [B_mk]
  go_wp2_with fail
  refine HT.out.mono ?_
  rintro e w1 ⟨rfl,hb1⟩
  go_wp2_with fail
  go_loopw [5,6,7,8,10,11,12,13,14,15,16,17,53,60,65] (fun p q r s t _ _ _ _ _ _ _ _ _ _ wr=>∃ (x:Int) (y:Nat) (z:Int) (v:Nat) (k:Int),p=.string (B (decI x))∧q=.string (B (dec y))∧r=.string (B (decI z))∧s=.string (B (dec v))∧t=.int .i64 k∧0<y∧0<v∧(dl x≤4096∧(dec y).length≤4096∧dl z≤4096∧(dec v).length≤4096)∧k*ordI (x*v) (z*y)=cmpQ a b∧(k=1∨k = -1)∧Below w.heap.size w wr) (fun _ q _ _ _ _ _ _ _ _ _ _ _ _ _ _=>strVal q)
  case atStart=>exact ⟨_,_,_,_,1,rfl,rfl,rfl,rfl,rfl,hpa,hpb,HB.out,by rw [HC.out,Int.one_mul],.inl rfl,hb1⟩
  case round =>
   obtain ⟨x,y,z,v,k,rfl,rfl,rfl,rfl,rfl,hy,hv,hsz,hk,hk1,hbel⟩:=hrel
   have HK:=Lib.hid hk
   clear hk
   have HD1:=Lib.hid (fun w ht=>pdivq_any x y w hsz.1 hsz.2.1 hy ht)
   have HD2:=Lib.hid (fun w ht=>pdivq_any z v w hsz.2.2.1 hsz.2.2.2 hv ht)
   have l1:(decI (x / (y:Int))).length≤1000000:=by have:=dl_len (x / (y:Int));have:=dl_mono (Int.natAbs_ediv_le_natAbs x y);omega
   have l2:(decI (z / (v:Int))).length≤1000000:=by have:=dl_len (z / (v:Int));have:=dl_mono (Int.natAbs_ediv_le_natAbs z v);omega
   have HCM:=Lib.hid (fun w=>pcmp_any (decI (x / (y:Int))) (decI (z / (v:Int))) w l1 l2)
   have hyi:(0:Int)<y:=by omega
   have hvi:(0:Int)<v:=by omega
   have hm1:=Int.emod_nonneg x (show (y:Int)≠0 by omega)
   have hm2:=Int.emod_lt_of_pos x hyi
   have hm3:=Int.emod_nonneg z (show (v:Int)≠0 by omega)
   have hm4:=Int.emod_lt_of_pos z hvi
   clear l1 l2
   rcases Int.lt_trichotomy (x / (y:Int)) (z / (v:Int)) with hlt | heq | hgt
   ·have HCV:=Lib.hid (show cmpIS (decI (x / (y:Int))) (decI (z / (v:Int))) = -1 by rw [cmp_dec];unfold ordI;rw [if_pos hlt])
    have HE:=Lib.hid (eu_less hyi hvi hlt)
    clear hlt
    go_wp2_with fail
    refine (HD1.out wr (ht.below hbel)).mono ?_
    rintro e w2 ⟨rfl,hb2⟩
    have a2:=hbel.trans (hb2.mono hbel.size)
    go_wp2_with fail
    refine (HD2.out w2 (ht.below a2)).mono ?_
    rintro e w3 ⟨rfl,hb3⟩
    have a3:=a2.trans (hb3.mono a2.size)
    go_wp2_with fail
    refine (HCM.out w3).mono ?_
    rw [HCV.out]
    rintro e w' ⟨rfl,h⟩;obtain rfl:=h.symm
    go_wp2_with fail
    go_ret
    exact ⟨ret_int (by rw [← HK.out,HE.out];omega),a3⟩
   ·have HCV:=Lib.hid (show cmpIS (decI (x / (y:Int))) (decI (z / (v:Int)))=0 by rw [cmp_dec,heq];unfold ordI;rw [if_neg (Int.lt_irrefl _),if_neg (Int.lt_irrefl _)])
    have HE:=Lib.hid (ecmp_step hy hv heq)
    clear heq
    by_cases hx0:x % (y:Int)=0 <;> by_cases hz0:z % (v:Int)=0
    ·have hx':(decI (x % (y:Int)) == [48])=true:=by rw [hx0,decI_zero];rfl
     have hz':(decI (z % (v:Int)) == [48])=true:=by rw [hz0,decI_zero];rfl
     have HF:=Lib.hid (show ordI (x*v) (z*y)=0 by rw [HE.out,hx0,hz0];exact eu_zz)
     clear hx0 hz0 hm1 hm2 hm3 hm4
     go_wp2_with fail
     refine (HD1.out wr (ht.below hbel)).mono ?_
     rintro e w2 ⟨rfl,hb2⟩
     have a2:=hbel.trans (hb2.mono hbel.size)
     go_wp2_with fail
     refine (HD2.out w2 (ht.below a2)).mono ?_
     rintro e w3 ⟨rfl,hb3⟩
     have a3:=a2.trans (hb3.mono a2.size)
     go_wp2_with fail
     refine (HCM.out w3).mono ?_
     rw [HCV.out]
     rintro e w' ⟨rfl,h⟩;obtain rfl:=h.symm
     go_wp2_with fail
     go_ret
     exact ⟨ret_int (by rw [← HK.out,HF.out,Int.mul_zero]),a3⟩
    ·have hx':(decI (x % (y:Int)) == [48])=true:=by rw [hx0,decI_zero];rfl
     have hz':(decI (z % (v:Int)) == [48])=false:=by rw [beq_eq_false_iff_ne];exact fun e=>hz0 (decI_eq_zero.1 e)
     have HF:=Lib.hid (show ordI (x*v) (z*y) = -1 by rw [HE.out,hx0];exact eu_zp hyi (by omega))
     clear hx0 hz0 hm1 hm2 hm3 hm4
     go_wp2_with fail
     refine (HD1.out wr (ht.below hbel)).mono ?_
     rintro e w2 ⟨rfl,hb2⟩
     have a2:=hbel.trans (hb2.mono hbel.size)
     go_wp2_with fail
     refine (HD2.out w2 (ht.below a2)).mono ?_
     rintro e w3 ⟨rfl,hb3⟩
     have a3:=a2.trans (hb3.mono a2.size)
     go_wp2_with fail
     refine (HCM.out w3).mono ?_
     rw [HCV.out]
     rintro e w' ⟨rfl,h⟩;obtain rfl:=h.symm
     go_wp2_with fail
     go_ret
     exact ⟨ret_int (by rw [← HK.out,HF.out];omega),a3⟩
    ·have hx':(decI (x % (y:Int)) == [48])=false:=by rw [beq_eq_false_iff_ne];exact fun e=>hx0 (decI_eq_zero.1 e)
     have hz':(decI (z % (v:Int)) == [48])=true:=by rw [hz0,decI_zero];rfl
     have HF:=Lib.hid (show ordI (x*v) (z*y)=1 by rw [HE.out,hz0];exact eu_pz hvi (by omega))
     clear hx0 hz0 hm1 hm2 hm3 hm4
     go_wp2_with fail
     refine (HD1.out wr (ht.below hbel)).mono ?_
     rintro e w2 ⟨rfl,hb2⟩
     have a2:=hbel.trans (hb2.mono hbel.size)
     go_wp2_with fail
     refine (HD2.out w2 (ht.below a2)).mono ?_
     rintro e w3 ⟨rfl,hb3⟩
     have a3:=a2.trans (hb3.mono a2.size)
     go_wp2_with fail
     refine (HCM.out w3).mono ?_
     rw [HCV.out]
     rintro e w' ⟨rfl,h⟩;obtain rfl:=h.symm
     go_wp2_with fail
     go_ret
     exact ⟨ret_int (by rw [← HK.out,HF.out];omega),a3⟩
    ·have hx':(decI (x % (y:Int)) == [48])=false:=by rw [beq_eq_false_iff_ne];exact fun e=>hx0 (decI_eq_zero.1 e)
     have hz':(decI (z % (v:Int)) == [48])=false:=by rw [beq_eq_false_iff_ne];exact fun e=>hz0 (decI_eq_zero.1 e)
     have HX:=Lib.hid (show decI (x % (y:Int))=dec (x % (y:Int)).toNat∧((x % (y:Int)).toNat:Int)=x % (y:Int)∧0<(x % (y:Int)).toNat∧(x % (y:Int)).toNat<y from ⟨by rw [← decI_nat];congr 1;omega,by omega,by omega,by omega⟩)
     have HZ:=Lib.hid (show decI (z % (v:Int))=dec (z % (v:Int)).toNat∧((z % (v:Int)).toNat:Int)=z % (v:Int)∧0<(z % (v:Int)).toNat∧(z % (v:Int)).toNat<v from ⟨by rw [← decI_nat];congr 1;omega,by omega,by omega,by omega⟩)
     have HN:=Lib.hid (show dl (y:Int)≤4096∧(dec (x % (y:Int)).toNat).length≤4096∧dl (v:Int)≤4096∧(dec (z % (v:Int)).toNat).length≤4096 from
      ⟨by rw [dl_nat];exact hsz.2.1,Nat.le_trans (length_dec_mono (Nat.le_of_lt HX.out.2.2.2)) hsz.2.1,by rw [dl_nat];exact hsz.2.2.2,Nat.le_trans (length_dec_mono (Nat.le_of_lt HZ.out.2.2.2)) hsz.2.2.2⟩)
     have HF:=Lib.hid (show ordI (x*v) (z*y) = -(ordI ((y:Int)*(z % (v:Int)).toNat) ((v:Int)*(x % (y:Int)).toNat)) by rw [HE.out,HZ.out.2.1,HX.out.2.1];exact eu_turn)
     clear hx0 hz0 hm1 hm2 hm3 hm4
     go_wp2_with fail
     refine (HD1.out wr (ht.below hbel)).mono ?_
     rintro e w2 ⟨rfl,hb2⟩
     have a2:=hbel.trans (hb2.mono hbel.size)
     go_wp2_with fail
     refine (HD2.out w2 (ht.below a2)).mono ?_
     rintro e w3 ⟨rfl,hb3⟩
     have a3:=a2.trans (hb3.mono a2.size)
     go_wp2_with fail
     refine (HCM.out w3).mono ?_
     rw [HCV.out]
     rintro e w' ⟨rfl,h⟩;obtain rfl:=h.symm
     go_wp2_with fail
     go_round
     case rel =>
      exact ⟨(y:Int),(x % (y:Int)).toNat,(v:Int),(z % (v:Int)).toNat,-k,by rw [decI_nat],by rw [HX.out.1],by rw [decI_nat],by rw [HZ.out.1],rfl,HX.out.2.2.1,HZ.out.2.2.1,HN.out,by rw [← HK.out,HF.out,Int.neg_mul,Int.mul_neg],by omega,a3⟩
     case measure=>rw [HX.out.1,strVal_B,strVal_B,val_dec,val_dec];exact HX.out.2.2.2
   ·have HCV:=Lib.hid (show cmpIS (decI (x / (y:Int))) (decI (z / (v:Int)))=1 by rw [cmp_dec];unfold ordI;rw [if_neg (by omega),if_pos hgt])
    have HE:=Lib.hid (eu_more hyi hvi hgt)
    clear hgt
    go_wp2_with fail
    refine (HD1.out wr (ht.below hbel)).mono ?_
    rintro e w2 ⟨rfl,hb2⟩
    have a2:=hbel.trans (hb2.mono hbel.size)
    go_wp2_with fail
    refine (HD2.out w2 (ht.below a2)).mono ?_
    rintro e w3 ⟨rfl,hb3⟩
    have a3:=a2.trans (hb3.mono a2.size)
    go_wp2_with fail
    refine (HCM.out w3).mono ?_
    rw [HCV.out]
    rintro e w' ⟨rfl,h⟩;obtain rfl:=h.symm
    go_wp2_with fail
    go_ret
    exact ⟨ret_int (by rw [← HK.out,HE.out];omega),a3⟩
 ·have h3:errQ a b=3:=by unfold errQ at h0 ⊢;by_cases h:rightQ a=true∧rightQ b=true;exact absurd (if_pos h) h0;exact if_neg h
  have HC:=Lib.hid (show cmpQ a b=0 by unfold cmpQ;rw [if_neg h0])
  rw [h3] at HT
  clear h0 h3
  go_enter Tryz.func109,Tryz.ntmps109
  simp only [B_mk]
  go_wp2_with fail
  refine HT.out.mono ?_
  rintro e w1 ⟨rfl,hb1⟩
  go_wp2_with fail
  go_ret
  exact ⟨ret_int HC.out.symm,hb1⟩
theorem pmulq_any (x y:Int) (w:World) (hx:dl x≤4096) (hy:dl y≤4096) (ht:Tab w) :
  Calls Tryz.prog 169 #[.string (B (decI x)),.string (B (decI y))] w fun e w'=>e=.returned (.tuple #[.string (B (resIS (x*y))),.int .i64 (resIE (x*y))])∧Below w.heap.size w w':=by
 have h1:=dl_len x
 have h2:=dl_len y
 have h:=pmul_any (decI x) (decI y) w (by omega) (by omega) ht
 have he:=errI_dec (x:=x) (y:=y) hx hy
 have e1:mulIS (decI x) (decI y)=resIS (x*y):=by unfold mulIS;rw [if_pos he,valI_decI,valI_decI]
 have e2:mulIE (decI x) (decI y)=resIE (x*y):=by unfold mulIE;rw [if_pos he,valI_decI,valI_decI]
 rw [e1,e2] at h;exact h
def prods (ps:List (Int × Int)):List Str:=ps.map fun p=>decI (p.1*p.2)
set_option maxRecDepth 100000 in
theorem qprod_any (ps:List (Int × Int)) (bk c:Nat) (w:World) (hn:ps.length≤2) (hc:ps.length≤c∧c≤maxLen) (hb:bk<w.heap.size) (ht:Tab w)
  (hs:∀ k,k<ps.length→dl (ps.getD k (0,0)).1≤4096∧dl (ps.getD k (0,0)).2≤4096)
  (hx:∀ k,k<ps.length→w.cell? ⟨bk,k*2,none⟩=some (.string (B (decI (ps.getD k (0,0)).1)))∧w.cell? ⟨bk,k*2+1,none⟩=some (.string (B (decI (ps.getD k (0,0)).2)))) :
  Calls Tryz.prog 141 #[.slice (some ⟨bk,0,none⟩) ps.length c] w fun e w'=>Below w.heap.size w w'∧∃ v er,e=.returned (.tuple #[v,.int .i64 er]) ∧
   ((ps.all (fun p=>decide (dl (p.1*p.2)≤4096))=true∧er=0∧∃ A c,v=.slice A ps.length c∧OwnS w' w.heap.size 9 A ps.length c (strs (prods ps))) ∨
    (ps.all (fun p=>decide (dl (p.1*p.2)≤4096))=false∧er=4∧v=.slice none 0 0)):=by
 unfold maxLen at hc
 have HX:=Lib.hid hx
 have HS:=Lib.hid hs
 clear hx hs
 go_enter Tryz.func141,Tryz.ntmps141
 go_wp2_with (refine wp_mk0 el_string rfl _ _ rfl w.heap.size _ .i64 .i64 _ ps.length rfl rfl rfl (by omega) (by unfold maxLen;omega) (Nat.le_refl _) ?_;intro A0 w0 hown0 hb0)
 go_loopw [4,6,7,8,14] (fun v x n e i wr=>∃ (k:Nat) (A:Option Addr) (c2:Nat),k≤ps.length∧i=.int .i64 k∧v=.slice A k c2∧OwnS wr w.heap.size 9 A k c2 (strs (prods (ps.take k)))∧(ps.take k).all (fun p=>decide (dl (p.1*p.2)≤4096))=true∧Below w.heap.size w wr) (fun _ _ _ _ i _=>ps.length - (intOf i).toNat)
 case atStart=>exact ⟨0,A0,ps.length,by omega,rfl,rfl,hown0,rfl,hb0⟩
 case round =>
  obtain ⟨k,A,c2,hk,rfl,rfl,hown,hall,hbel⟩:=hrel
  have HA:=Lib.hid hall
  clear hall
  by_cases hlt:k<ps.length
  ·have c1:wr.cell? ⟨bk,k*2,none⟩=some (.string (B (decI (ps.getD k (0,0)).1))):=(hbel.cell (p:=⟨bk,k*2,none⟩) hb).trans (HX.out k hlt).1
   have c2':wr.cell? ⟨bk,k*2+1,none⟩=some (.string (B (decI (ps.getD k (0,0)).2))):=(hbel.cell (p:=⟨bk,k*2+1,none⟩) hb).trans (HX.out k hlt).2
   have hm:=HS.out k hlt
   have HT:=Lib.hid (show ps.take (k+1)=ps.take k ++ [ps.getD k (0,0)] by rw [List.take_succ_eq_append_getElem hlt];simp [hlt])
   have HM:=Lib.hid (show ps.getD k (0,0) ∈ ps by rw [List.getD_eq_getElem?_getD,List.getElem?_eq_getElem hlt];exact List.getElem_mem hlt)
   generalize ps.getD k (0,0)=p at *
   obtain ⟨x,y⟩:=p
   have HP:=Lib.hid (fun w ht=>pmulq_any x y w hm.1 hm.2 ht)
   clear hm
   have b1:Below wr.heap.size wr (wr.alloc (.cells #[.string (B (decI x)),.string (B (decI y))] 137)):=(Below.refl _ _).alloc (Nat.le_refl _) _
   have a1:=hbel.trans (b1.mono hbel.size)
   by_cases hd:dl (x*y)≤4096
   ·have hr:=resIS_dec hd
    rw [hr.1,hr.2] at HP
    have hdl:=dl_len (x*y)
    have HA2:=Lib.hid (show (ps.take (k+1)).all (fun p=>decide (dl (p.1*p.2)≤4096))=true by rw [HT.out,List.all_append,HA.out];simp [hd])
    clear hd hr
    go_wp2_with fail
    refine (HP.out _ (ht.below a1)).mono ?_
    rintro e w2 ⟨rfl,hb2⟩
    have b2:=b1.trans (hb2.mono b1.size)
    have a2:=hbel.trans (b2.mono hbel.size)
    have hown1:=hown.below b2
    go_wp2_with (at_builtin;refine wp_app1 el_string rfl _ _ rfl w.heap.size _ _ _ (strs (prods (ps.take k))) _ (.string (B (decI (x*y)))) rfl hown1 rfl rfl (by unfold maxLen;omega) (by omega) a2.size ?_;intro A3 c3 w3 hown3 hb3)
    go_roundw
    case rel=>exact ⟨k+1,A3,c3,by omega,by go_num,rfl,by rw [HT.out];simpa [prods,strs] using hown3,HA2.out,a2.trans hb3⟩
    case measure=>simp [intOf];omega
   ·have hr:resIS (x*y)=[]∧resIE (x*y)=4:=⟨if_neg hd,if_neg hd⟩
    rw [hr.1,hr.2] at HP
    have HN:=Lib.hid (show ps.all (fun p=>decide (dl (p.1*p.2)≤4096))=false by rw [List.all_eq_false];exact ⟨(x,y),HM.out,by simpa using hd⟩)
    clear hd hr
    go_wp2_with fail
    refine (HP.out _ (ht.below a1)).mono ?_
    rintro e w2 ⟨rfl,hb2⟩
    have b2:=b1.trans (hb2.mono b1.size)
    go_wp2_with fail
    go_ret2
    exact ⟨hbel.trans (b2.mono hbel.size),_,_,rfl,.inr ⟨HN.out,rfl,rfl⟩⟩
  ·obtain rfl:k=ps.length:=by omega
   have HE:=Lib.hid (show ps.take ps.length=ps from List.take_length)
   rw [HE.out] at hown HA
   go_wp2_with fail
   go_ret2
   exact ⟨hbel,_,_,rfl,.inl ⟨HA.out,rfl,A,c2,rfl,hown⟩⟩
theorem keep2 {w wo wn:World} {g:Nat} {v0 v1:Value} (h:Below w.heap.size w wo∧wo.cell? ⟨g,0,none⟩=some v0∧wo.cell? ⟨g,1,none⟩=some v1∧g<wo.heap.size) (hb:Below wo.heap.size wo wn) :
  Below w.heap.size w wn∧wn.cell? ⟨g,0,none⟩=some v0∧wn.cell? ⟨g,1,none⟩=some v1∧g<wn.heap.size :=
 ⟨h.1.trans (hb.mono h.1.size),(hb.cell (p:=⟨g,0,none⟩) h.2.2.2).trans h.2.1,(hb.cell (p:=⟨g,1,none⟩) h.2.2.2).trans h.2.2.1,Nat.lt_of_lt_of_le h.2.2.2 hb.size⟩
theorem two_in {w:World} {x y u v:Value} {t:TypeId}:∀ (i:Nat) (z:Value),#[x,y,u,v][i]? = some z→(w.alloc (.cells #[x,y,u,v] t)).cell? ⟨w.heap.size,i,none⟩=some z:=by
 intro i z h
 rw [show (w.alloc (.cells #[x,y,u,v] t)).cell? ⟨w.heap.size,i,none⟩=#[x,y,u,v][i]? by
  have e:(w.alloc (.cells #[x,y,u,v] t)).heap[w.heap.size]? = some (.cells #[x,y,u,v] t):=by
   show (w.heap.push (.cells #[x,y,u,v] t))[w.heap.size]? = _
   simp
  unfold World.cell?;simp only [e];rfl]
 exact h
theorem qprod2_any (x y u v:Int) (t:TypeId) (w:World) (hx:dl x≤4096) (hy:dl y≤4096) (hu:dl u≤4096) (hv:dl v≤4096) (ht:Tab w) :
  Calls Tryz.prog 141 #[.slice (some ⟨w.heap.size,0,none⟩) 2 2] (w.alloc (.cells #[.string (B (decI x)),.string (B (decI y)),.string (B (decI u)),.string (B (decI v))] t)) fun e w'=>Below w.heap.size w w'∧∃ r er,e=.returned (.tuple #[r,.int .i64 er]) ∧
   ((dl (x*y)≤4096∧dl (u*v)≤4096∧er=0∧∃ g c,r=.slice (some ⟨g,0,none⟩) 2 c∧2≤c∧c≤maxLen∧g<w'.heap.size∧w'.cell? ⟨g,0,none⟩=some (.string (B (decI (x*y))))∧w'.cell? ⟨g,1,none⟩=some (.string (B (decI (u*v))))) ∨
    (¬ (dl (x*y)≤4096∧dl (u*v)≤4096)∧er=4∧r=.slice none 0 0)):=by
 have b1:Below w.heap.size w (w.alloc (.cells #[.string (B (decI x)),.string (B (decI y)),.string (B (decI u)),.string (B (decI v))] t)):=(Below.refl _ _).alloc (Nat.le_refl _) _
 have h:=qprod_any [(x,y),(u,v)] w.heap.size 2 (w.alloc (.cells #[.string (B (decI x)),.string (B (decI y)),.string (B (decI u)),.string (B (decI v))] t)) (by simp) ⟨by simp,by unfold maxLen;omega⟩ (by simp) (ht.below b1)
  (by intro k hk;match k,hk with
   | 0,_=>exact ⟨hx,hy⟩
   | 1,_=>exact ⟨hu,hv⟩)
  (by intro k hk;match k,hk with
   | 0,_=>exact ⟨two_in 0 _ rfl,two_in 1 _ rfl⟩
   | 1,_=>exact ⟨two_in 2 _ rfl,two_in 3 _ rfl⟩)
 refine h.mono ?_
 rintro e w' ⟨hb,r,er,rfl,hc⟩
 refine ⟨b1.trans (hb.mono b1.size),r,er,rfl,?_⟩
 rcases hc with ⟨ha,rfl,A,c,rfl,hown⟩ | ⟨ha,rfl,rfl⟩
 ·simp at ha
  obtain ⟨g,rfl,hg1,hg2,hgc,hgf⟩:=hown.at_ (by simp)
  have hcap:=hown.cap
  exact .inl ⟨ha.1,ha.2,rfl,g,c,rfl,hcap.1,hcap.2,hg2,hgc 0 (by simp),hgc 1 (by simp)⟩
 ·refine .inr ⟨?_,rfl,rfl⟩
  rintro ⟨h1,h2⟩
  simp [h1,h2] at ha
set_option maxHeartbeats 1000000 in
set_option maxRecDepth 100000 in
theorem qmul_any (a b:List UInt8) (w:World) (ha:a.length≤1000000) (hb:b.length≤1000000) (he:Env w) :
  Calls Tryz.prog 106 #[.string (B a),.string (B b)] w fun e w'=>e=.returned (.tuple #[.string (B (mulQS a b)),.int .i64 (mulQE a b)])∧Below w.heap.size w w':=by
 have HT:=Lib.hid (qtwo_any a b w ha hb he)
 have ht:=he.1
 by_cases h0:errQ a b=0
 ·have hr:=errQ_zero.1 h0
  have pa:=rq_parts hr.1
  have pb:=rq_parts hr.2
  have HS:=Lib.hid (show ∀ s,twoS a b s=s by intro s;unfold twoS;rw [if_pos h0])
  rw [HS.out,HS.out,HS.out,HS.out,h0,pa.1,pa.2.1,pb.1,pb.2.1,← decI_nat,← decI_nat] at HT
  have HC:=Lib.hid (show mulQE a b=if dl (qn a*qn b)≤4096∧dl ((qd a:Int)*qd b)≤4096 then 0 else 4 by unfold mulQE;rw [if_pos h0])
  have HSS:=Lib.hid (show mulQS a b=if mulQE a b=0 then lowS (qn a*qn b) (qd a*qd b) else [] from rfl)
  have HP:=Lib.hid (fun t w ht=>qprod2_any (qn a) (qn b) (qd a) (qd b) t w pa.2.2.2.1 pb.2.2.2.1 (by rw [dl_nat];exact pa.2.2.2.2.1) (by rw [dl_nat];exact pb.2.2.2.2.1) ht)
  have hm0:0<qd a*qd b:=Nat.mul_pos pa.2.2.1 pb.2.2.1
  have HM:=Lib.hid (show decI ((qd a:Int)*(qd b:Int))=dec (qd a*qd b) by rw [← Int.natCast_mul,decI_nat])
  have HDL:=Lib.hid (show dl ((qd a:Int)*(qd b:Int))=(dec (qd a*qd b)).length by rw [← Int.natCast_mul,dl_nat])
  clear pa pb hr h0 HS
  go_enter Tryz.func106,Tryz.ntmps106
  simp only [B_mk]
  go_wp2_with fail
  refine HT.out.mono ?_
  rintro e w1 ⟨rfl,hb1⟩
  go_wp2_with fail
  refine (HP.out _ w1 (ht.below hb1)).mono ?_
  rintro e w2 ⟨hb2,r,er,rfl,hc⟩
  have a2:=hb1.trans (hb2.mono hb1.size)
  rcases hc with ⟨h1,h2,rfl,g,c,rfl,hc1,hc2,hg,c0,c1⟩ | ⟨hno,rfl,rfl⟩
  ·have HE:=Lib.hid (show mulQE a b=0 by rw [HC.out];exact if_pos ⟨h1,h2⟩)
   have HR:=Lib.hid (show mulQS a b=lowS (qn a*qn b) (qd a*qd b) by rw [HSS.out];exact if_pos HE.out)
   rw [HM.out] at c1
   rw [HDL.out] at h2
   have HL:=Lib.hid (fun w ht=>qlowest_any (qn a*qn b) (qd a*qd b) w h1 h2 hm0 ht)
   unfold maxLen at hc2
   clear h1 h2
   go_wp2_with fail
   have hbd:Below w.heap.size w w2.drew:=below_drew a2
   have hL:=HL.out _ (ht.below hbd)
   have hS0:Below w.heap.size w w2.drew∧w2.drew.cell? ⟨g,0,none⟩=some (.string (B (decI (qn a*qn b))))∧w2.drew.cell? ⟨g,1,none⟩=some (.string (B (dec (qd a*qd b))))∧g<w2.drew.heap.size:=⟨hbd,c0,c1,hg⟩
   go_region_held3 (fun w'=>Below w.heap.size w w'∧w'.cell? ⟨g,0,none⟩=some (.string (B (decI (qn a*qn b))))∧w'.cell? ⟨g,1,none⟩=some (.string (B (dec (qd a*qd b))))∧g<w'.heap.size)
    (first | (exact keep2 (hb:=hb3) (by assumption)) | (with_reducible exact hS0))
    (first | (go_at_call 142;((with_reducible refine hL.mono ?_);rintro e w3 ⟨rfl,hb3⟩)))
   all_goals
    go_wp2_with fail
    go_ret2
    exact ⟨ret_si' HR.out.symm HE.out.symm,hbd.trans (hb3.mono hbd.size)⟩
  ·have HE:=Lib.hid (show mulQE a b=4 by rw [HC.out];exact if_neg hno)
   have HR:=Lib.hid (show mulQS a b=[] by rw [HSS.out,HE.out];rfl)
   clear hno
   go_wp2_with fail
   go_ret2
   exact ⟨ret_si' HR.out.symm HE.out.symm,a2⟩
 ·have h3:errQ a b=3:=by unfold errQ at h0 ⊢;by_cases h:rightQ a=true∧rightQ b=true;exact absurd (if_pos h) h0;exact if_neg h
  have HE:=Lib.hid (show mulQE a b=3 by unfold mulQE;rw [if_neg h0])
  have HR:=Lib.hid (show mulQS a b=[] by unfold mulQS;rw [HE.out];rfl)
  rw [h3] at HT
  clear h0 h3
  go_enter Tryz.func106,Tryz.ntmps106
  simp only [B_mk]
  go_wp2_with fail
  refine HT.out.mono ?_
  rintro e w1 ⟨rfl,hb1⟩
  go_wp2_with fail
  go_ret2
  exact ⟨ret_si' HR.out.symm HE.out.symm,hb1⟩
set_option maxHeartbeats 1000000 in
set_option maxRecDepth 100000 in
theorem qdiv_any (a b:List UInt8) (w:World) (ha:a.length≤1000000) (hb:b.length≤1000000) (he:Env w) :
  Calls Tryz.prog 143 #[.string (B a),.string (B b)] w fun e w'=>e=.returned (.tuple #[.string (B (quoQS a b)),.int .i64 (quoQE a b)])∧Below w.heap.size w w':=by
 have HT:=Lib.hid (qtwo_any a b w ha hb he)
 have ht:=he.1
 by_cases h0:errQ a b=0
 ·have hr:=errQ_zero.1 h0
  have pa:=rq_parts hr.1
  have pb:=rq_parts hr.2
  have HS:=Lib.hid (show ∀ s,twoS a b s=s by intro s;unfold twoS;rw [if_pos h0])
  rw [HS.out,HS.out,HS.out,HS.out,h0,pa.1,pa.2.1,pb.1,pb.2.1,← decI_nat,← decI_nat] at HT
  by_cases hz:qn b=0
  ·have hz':(decI (qn b) == [48])=true:=by rw [hz,decI_zero];rfl
   have HE:=Lib.hid (show quoQE a b=10 by unfold quoQE;rw [if_pos h0,if_pos hz])
   have HR:=Lib.hid (show quoQS a b=[] by unfold quoQS;rw [HE.out];rfl)
   clear pa pb hr h0 HS hz
   go_enter Tryz.func143,Tryz.ntmps143
   simp only [B_mk]
   go_wp2_with fail
   refine HT.out.mono ?_
   rintro e w1 ⟨rfl,hb1⟩
   go_wp2_with fail
   go_ret2
   exact ⟨ret_si' HR.out.symm HE.out.symm,hb1⟩
  have hz':(decI (qn b) == [48])=false:=by rw [beq_eq_false_iff_ne];exact fun e=>hz (decI_eq_zero.1 e)
  have HC:=Lib.hid (show quoQE a b=if dl (qn a*qd b)≤4096∧dl ((qd a:Int)*qn b)≤4096 then 0 else 4 by unfold quoQE;rw [if_pos h0,if_neg hz])
  have HSS:=Lib.hid (show quoQS a b=if quoQE a b=0 then quoS (qn a*qd b) ((qd a:Int)*qn b) else [] from rfl)
  have HP:=Lib.hid (fun t w ht=>qprod2_any (qn a) (qd b) (qd a) (qn b) t w pa.2.2.2.1 (by rw [dl_nat];exact pb.2.2.2.2.1) (by rw [dl_nat];exact pa.2.2.2.2.1) pb.2.2.2.1 ht)
  have hm0:(qd a:Int)*qn b≠0:=Int.mul_ne_zero (by have:=pa.2.2.1;omega) hz
  clear hz
  clear pa pb hr h0 HS
  go_enter Tryz.func143,Tryz.ntmps143
  simp only [B_mk]
  go_wp2_with fail
  refine HT.out.mono ?_
  rintro e w1 ⟨rfl,hb1⟩
  go_wp2_with fail
  refine (HP.out _ w1 (ht.below hb1)).mono ?_
  rintro e w2 ⟨hb2,r,er,rfl,hc⟩
  have a2:=hb1.trans (hb2.mono hb1.size)
  rcases hc with ⟨h1,h2,rfl,g,c,rfl,hc1,hc2,hg,c0,c1⟩ | ⟨hno,rfl,rfl⟩
  ·have HE:=Lib.hid (show quoQE a b=0 by rw [HC.out];exact if_pos ⟨h1,h2⟩)
   have HR:=Lib.hid (show quoQS a b=quoS (qn a*qd b) ((qd a:Int)*qn b) by rw [HSS.out];exact if_pos HE.out)
   have HL:=Lib.hid (fun w ht=>qquot_any (qn a*qd b) ((qd a:Int)*qn b) w h1 h2 hm0 ht)
   unfold maxLen at hc2
   clear h1 h2
   go_wp2_with fail
   have hbd:Below w.heap.size w w2.drew:=below_drew a2
   have hL:=HL.out _ (ht.below hbd)
   have hS0:Below w.heap.size w w2.drew∧w2.drew.cell? ⟨g,0,none⟩=some (.string (B (decI (qn a*qd b))))∧w2.drew.cell? ⟨g,1,none⟩=some (.string (B (decI ((qd a:Int)*qn b))))∧g<w2.drew.heap.size:=⟨hbd,c0,c1,hg⟩
   go_region_held3 (fun w'=>Below w.heap.size w w'∧w'.cell? ⟨g,0,none⟩=some (.string (B (decI (qn a*qd b))))∧w'.cell? ⟨g,1,none⟩=some (.string (B (decI ((qd a:Int)*qn b))))∧g<w'.heap.size)
    (first | (exact keep2 (hb:=hb3) (by assumption)) | (with_reducible exact hS0))
    (first | (go_at_call 170;((with_reducible refine hL.mono ?_);rintro e w3 ⟨rfl,hb3⟩)))
   all_goals
    go_wp2_with fail
    go_ret2
    exact ⟨ret_si' HR.out.symm HE.out.symm,hbd.trans (hb3.mono hbd.size)⟩
  ·have HE:=Lib.hid (show quoQE a b=4 by rw [HC.out];exact if_neg hno)
   have HR:=Lib.hid (show quoQS a b=[] by rw [HSS.out,HE.out];rfl)
   clear hno
   go_wp2_with fail
   go_ret2
   exact ⟨ret_si' HR.out.symm HE.out.symm,a2⟩
 ·have h3:errQ a b=3:=by unfold errQ at h0 ⊢;by_cases h:rightQ a=true∧rightQ b=true;exact absurd (if_pos h) h0;exact if_neg h
  have HE:=Lib.hid (show quoQE a b=3 by unfold quoQE;rw [if_neg h0])
  have HR:=Lib.hid (show quoQS a b=[] by unfold quoQS;rw [HE.out];rfl)
  rw [h3] at HT
  clear h0 h3
  go_enter Tryz.func143,Tryz.ntmps143
  simp only [B_mk]
  go_wp2_with fail
  refine HT.out.mono ?_
  rintro e w1 ⟨rfl,hb1⟩
  go_wp2_with fail
  go_ret2
  exact ⟨ret_si' HR.out.symm HE.out.symm,hb1⟩
end Go.Proofs.YtmppmdmekomjbaaGreatDoor

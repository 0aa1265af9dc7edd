/- nat.digit. -/
import Derived.Test.YtjcekdiocliddaaGreatDoorG8
import Derived.Test.YtjcekdiocliddaaGreatDoorG1
import Derived.Deep.LoopGhost
namespace Go.Proofs.YtjcekdiocliddaaGreatDoor
open Lib (hid)
open Go.RowKit Num
set_option linter.unusedVariables false
attribute [local go_sem] BS Bg Bt Bm Be
attribute [local go_sem high] rm
set_option maxHeartbeats 1000000 in
theorem bdigit_any (r d:Nat) (A A':Option Addr) (c c':Nat) (w:World) (hR:Nt w A c r) (hD:Nt w A' c' d) (hlr:(nl r).length<=100000) (hld:(nl d).length<=100000) (hd:0<d) (hrd:r<d*1000000000) :
  Calls Tryz.prog 194 #[.slice A (nl r).length c,.slice A' (nl d).length c'] w fun e w'=>e=.returned (.int .i64 ((r / d:Nat):Int))/\Below w.heap.size w w':=by
 have hq:r / d<1000000000:=Nat.div_lt_of_lt_mul hrd;have hle:∀ m:Nat,d*m<=r↔m<=r / d:=fun m=>by rw [Nat.le_div_iff_mul_le hd,Nat.mul_comm]
 have HLE:=hid hle;clear hle;obtain ⟨q,hqq⟩:∃ q,q=r / d:=⟨_,rfl⟩
 rw [<- hqq] at hq ⊢;have HQ:=hid hqq;clear hqq;go_enter Tryz.func194,Tryz.ntmps194;go_wp2_with fail;go_loopw [5,6,7] (fun lo hi _ wr=>∃ l h:Nat,lo=.int .i64 l/\hi=.int .i64 h/\l<=q/\q<=h/\h<=999999999/\Below w.heap.size w wr) (fun lo hi _ _=>(intOf hi - intOf lo).toNat)
 case atStart=>exact ⟨0,999999999,rfl,rfl,by omega,by omega,by omega,Below.refl _ _⟩
 case round =>
  obtain ⟨l,h,rfl,rfl,hl,hh,hm,hbel⟩:=hrel;by_cases hlt:l<h
  ·obtain ⟨m,hmm⟩:∃ m,m=(l+h+1) / 2:=⟨_,rfl⟩
   have e1:((l:Int)+(h:Int)+1) / 2=(m:Int):=by omega
   have hm1:l<m:=by omega
   have hm2:m<=h:=by omega
   clear hmm;have hDw:=hD.below hbel;have hRw:=hR.below hbel
   have hlen:(nl (d*m)).length<=1000000:=by
    have h1:d*m<1000000000 ^ ((nl d).length+1):=by
     have h2:=nE.1 (Nat.le_refl (nl d).length);rw [Nat.pow_succ];exact Nat.lt_of_lt_of_le (Nat.mul_lt_mul_of_lt_of_le h2 (show m<=1000000000 by omega) (by omega)) (Nat.le_refl _)
    have:=nE.2 h1;omega
   have hT:=times_any d m A' c' _ hDw (by omega) (by omega);have hDM:=hid (HLE.out m);have HDM2:Hid (d*m<=r↔m<=r / d):=hDM.out;obtain ⟨p,hp⟩:∃ p,p=d*m:=⟨_,rfl⟩
   rw [<- hp] at hT hlen;have HP:=hid hp;clear hp HDM2;have HT:=hid hT;clear hT;by_cases hc:m<=q
   ·have hcm:cI (p:Int) (r:Int)<=0:=by
     have:=(HLE.out m).2 (by rw [<- HQ.out];exact hc);rw [<- HP.out] at this;unfold cI;split
     ·omega
     ·rw [if_neg (by omega)];omega
    go_wp2_with fail;refine HT.out.mono ?_;rintro e w2 ⟨A3,c3,rfl,hn,hb2⟩;go_wp2_with fail;refine (ny p r A3 A c3 c _ (by omega) (by omega) hn.cells (hRw.below hb2).cells).mono ?_;rintro e w3 ⟨rfl,hb3⟩;go_wp2_with fail;have h5:=hbel.trans (hb2.mono hbel.size);have h6:=h5.trans (hb3.mono h5.size);go_roundw
    case rel=>exact ⟨m,h,rfl,rfl,hc,hh,hm,h6⟩
    case measure=>simp [intOf];omega
   ·have hcm:0<cI (p:Int) (r:Int):=by
     have h9:¬ d*m<=r:=fun h=>hc (by rw [HQ.out];exact (HLE.out m).1 h);rw [<- HP.out] at h9;rw [cmpI_gt (by omega)];omega
    go_wp2_with fail;refine HT.out.mono ?_;rintro e w2 ⟨A3,c3,rfl,hn,hb2⟩;go_wp2_with fail;refine (ny p r A3 A c3 c _ (by omega) (by omega) hn.cells (hRw.below hb2).cells).mono ?_;rintro e w3 ⟨rfl,hb3⟩;go_wp2_with fail;have h5:=hbel.trans (hb2.mono hbel.size);have h6:=h5.trans (hb3.mono h5.size);go_roundw
    case rel=>exact ⟨l,m - 1,rfl,by go_num,hl,by omega,by omega,h6⟩
    case measure=>simp [intOf];omega
  ·obtain rfl:l=h:=by omega
   obtain rfl:l=q:=by omega
   go_wp2_with fail;go_ret;exact ⟨rfl,hbel⟩
theorem div_step (xs zs:List Nat) (j b r q:Nat) (hj:j<xs.length) (hjz:j<zs.length) (hb:0<b) (hq:q=(aN xs j+1000000000*r) / b)
  (h:lv (xs.drop (j+1))=lv (zs.drop (j+1))*b+r) :
  lv (xs.drop j)=lv ((zs.set j q).drop j)*b+(aN xs j+1000000000*r) % b:=by
 rw [Dg xs j hj,h,Dg (zs.set j q) j (by simpa using hjz),Ch _ _ _ _ hjz,if_pos rfl];have e:(zs.set j q).drop (j+1)=zs.drop (j+1):=by rw [List.drop_set_of_lt (by omega)]
 rw [e];generalize lv (zs.drop (j+1))=Z;have h1:=Nat.div_add_mod (aN xs j+1000000000*r) b;rw [<- hq] at h1;have h2:(q+1000000000*Z)*b=b*q+1000000000*(Z*b):=by rw [Nat.add_mul,Nat.mul_comm q b,Nat.mul_assoc]
 rw [h2];omega
theorem div_q_lt {x r b:Nat} (hx:x<1000000000) (hr:r<b):(x+1000000000*r)<b*1000000000:=by
 have:=Nat.mul_le_mul_right 1000000000 (show r+1<=b by omega);omega
theorem Nt.setOther {w:World} {g3 o c n g:Nat} (h:Nt w (some ⟨g3,o,none⟩) c n) (hne:g3≠g) (j:Nat) (u:Value):Nt (w.setCell ⟨g,j,none⟩ u) (some ⟨g3,o,none⟩) c n:=by
 refine ⟨fun h0=>?_,h.le,h.cap⟩;obtain ⟨b,off,e,hb,hc⟩:=h.cells h0;injection e with e
 injection e with e1 e2 _
 subst e1;subst e2;exact ⟨g3,o,rfl,by simpa [World.setCell] using hb,fun i v hv=>by rw [World.cell?_setCell_other _ _ _ _ (by intro e;injection e with e;exact hne e.symm)];exact hc i v hv⟩
theorem dset_same (zs:List Nat) (j:Nat) (h:aN zs j=0):zs.set j 0=zs:=by
 apply List.ext_getElem?
 intro i;rw [List.getElem?_set];by_cases e:j=i
 ·subst e
  by_cases hl:j<zs.length
  ·simp only [aN,List.getD_eq_getElem?_getD,List.getElem?_eq_getElem hl,Option.getD_some] at h
   simp [hl,h]
  ·simp [hl]
 ·simp [e]
theorem limbs_cons {x:Nat} {xs:List Nat} (hx:x<1000000000) (h:lS xs):lS (x :: xs):=by
 intro y hy;rcases List.mem_cons.1 hy with e | h'
 ·omega
 ·exact h y h'
theorem Nt.zero (w:World):Nt w none 0 0:=⟨by rw [nZ];exact Cs.nil _ _,by rw [nZ];exact Nat.le_refl _,by unfold maxLen;omega⟩
theorem nums_one (xs:List Nat):∀ u ∈ Ns xs,u.oneCell'=true:=by
 intro u hu;unfold Ns at hu;obtain ⟨x,_,rfl⟩:=List.mem_map.1 hu;rfl
set_option maxHeartbeats 2000000 in
theorem divide_any (a b:Nat) (A A':Option Addr) (c c':Nat) (w:World) (hA:Nt w A c a) (hB:Nt w A' c' b) (hla:(nl a).length<=50000) (hlb:(nl b).length<=50000) (hb0:0<b) :
  Calls Tryz.prog 176 #[.slice A (nl a).length c,.slice A' (nl b).length c'] w fun e w'=>∃ A1 c1 A2 c2,e=.returned (.tuple #[.slice A1 (nl (a / b)).length c1,.slice A2 (nl (a % b)).length c2]) /\
   Nt w' A1 c1 (a / b)/\Nt w' A2 c2 (a % b)/\Below w.heap.size w w':=by
 have hx:=ln a;have HX:=hid (lN a);obtain ⟨hcx,hcl,hcm⟩:=hA;generalize nl a=xs at *;go_enter Tryz.func176,Tryz.ntmps176;go_wp2_with fail;go_step3
 go_wp2_with (refine wp_mkn en rfl _ _ rfl w.heap.size _ .i64 .i64 _ _ xs.length rfl rfl rfl rfl (by omega) (by unfold maxLen;omega) (Nat.le_refl _) rfl ?_;intro A0 w0 hown0 hbl0)
 go_step3
 go_wp2_with fail;go_loopw [7,8] (fun v i wr=>∃ (k r:Nat) (zs:List Nat) (Ar:Option Addr) (cr:Nat),k<=xs.length/\i=.int .i64 ((k:Int) - 1)/\v=.slice Ar (nl r).length cr/\Nt wr Ar cr r/\r<b /\
   OS wr w.heap.size 3 A0 xs.length xs.length (Ns zs)/\lS zs/\lv (xs.drop k)=lv (zs.drop k)*b+r/\(∀ j,j<k->aN zs j=0)/\Below w.heap.size w wr)
  (fun _ i _=>(intOf i+1).toNat)
 case atStart=>exact ⟨xs.length,0,List.replicate xs.length 0,none,0,Nat.le_refl _,rfl,by rw [nZ];rfl,Nt.zero _,hb0,by rw [Nr];exact hown0,Lr _,by rw [List.drop_of_length_le (Nat.le_refl _),List.drop_of_length_le (by simp)];simp [lv],fun j _=>ae _ _,hbl0⟩
 case round =>
  obtain ⟨k,r,zs,Ar,cr,hk,rfl,rfl,hr,hrb,hown,hz,hv,hzero,hbel⟩:=hrel;have hzl:zs.length=xs.length:=by have:=hown.len;rw [nL] at this;exact this
  have HZL:=hid hzl;have HV:=hid hv;have HZ:=hid hzero;clear hzl hv hzero;by_cases hk0:k=0
  ·subst hk0
   have hval:lv zs=a / b/\r=a % b:=by
    have h1:=HV.out;rw [List.drop_zero,List.drop_zero,HX.out] at h1;constructor
    ·rw [h1,Nat.mul_comm,Nat.mul_add_div hb0,Nat.div_eq_of_lt hrb];omega
    ·rw [h1,Nat.mul_comm,Nat.mul_add_mod,Nat.mod_eq_of_lt hrb]
   have HVAL:=hid hval;clear hval;go_wp2_with fail;refine (Tn zs (a / b) A0 _ _ _ hz HVAL.out.1 HZL.out hown.cap.1 hown.cap.2 hown.cells).mono ?_;rintro e w' ⟨rfl,hnum,rfl⟩;go_wp2_with fail;rw [Exit.noGoto_ret];go_ret2;exact ⟨A0,xs.length,Ar,cr,by rw [<- HVAL.out.2];rfl,hnum,by rw [<- HVAL.out.2];exact hr,hbel⟩
  ·obtain ⟨j,rfl⟩:∃ j,k=j+1:=⟨k - 1,by omega⟩
   rw [show ((j+1:Nat):Int) - 1=(j:Int) from by omega];obtain ⟨bx,offx,rfl,hbx,hcellx⟩:=(hcx.below hbel) (by rw [nL];omega);have hcj:=Cs.num hcellx j (by omega);have hxj:=AN hx j;obtain ⟨x,hxx⟩:∃ x,x=aN xs j:=⟨_,rfl⟩
   rw [<- hxx] at hcj hxj;have HXX:=hid hxx;have hlr:(nl r).length<=50000:=Nat.le_trans (nm (Nat.le_of_lt hrb)) hlb;have hBw:=hB.below hbel;obtain ⟨r',hr'⟩:∃ r',r'=x+1000000000*r:=⟨_,rfl⟩
   have hlt9:r' < b*1000000000:=by rw [hr'];exact div_q_lt hxj hrb
   have HR':=hid hr'
   have hlr':(nl r').length<=60000:=by
    have h1:=nE.1 (Nat.le_refl (nl b).length)
    have h2:r' < 1000000000 ^ ((nl b).length+1):=by
     rw [Nat.pow_succ];exact Nat.lt_of_lt_of_le hlt9 (Nat.mul_le_mul_right _ (Nat.le_of_lt h1))
    have:=nE.2 h2;omega
   have hlv:lv (x :: nl r)=r':=by rw [lv,lN,HR'.out]
   have HLV:=hid hlv;have hlimbs:lS (x :: nl r):=limbs_cons hxj (ln r);clear hcellx hk0 hxx hr' hlv
   go_wp2_with (at_builtin;refine wp_appn en rfl _ _ rfl wr.heap.size _ _ _ [.int .i64 (x:Int)] _ _ _ _ (Ns (nl r)) rfl (OS.lit wr 3 #[.int .i64 (x:Int)] wr.heap.size 1 (Nat.le_refl _) rfl (by unfold maxLen;omega)) rfl (nL _) (hr.cells.below ((Below.refl _ _).alloc (Nat.le_refl _) _)) (nums_one _) (by unfold maxLen;omega) (by omega) (by simp) ?_;intro A3 c3 w1 hown1 hb1)
   refine (Tn (x :: nl r) r' A3 _ c3 _ hlimbs HLV.out (by simp;omega) hown1.cap.1 hown1.cap.2 (by have:=hown1.cells;simpa [Ns] using this)).mono ?_;rintro e w2 ⟨rfl,hr2,hw2⟩;subst hw2;obtain ⟨g3,hA3,hg3,_⟩:=hown1.at_ (by omega);obtain ⟨g,hA0,hg1,hg2,_⟩:=hown.at_ (by omega);subst hA3;subst hA0;have hb2:Below wr.heap.size wr w2:=((Below.refl _ _).alloc (Nat.le_refl _) _).trans hb1
   have hown2:=hown.below hb2;have hbel2:=hbel.trans (hb2.mono hbel.size);have hBw2:=hBw.below hb2;have hq:=hid (fun q hq=>div_step xs zs j b r q (by omega) (by have:=HZL.out;omega) hb0 hq HV.out);have hmodlt:=Nat.mod_lt r' hb0;clear hown hbel hBw hr hb2 hb1 hown1 hcj;have hzj:=hid (HZ.out j (by omega));by_cases h1:r' < b
   ·have hcm:=hid (cmpI_lt (show (r':Int)<b by omega))
    have hset:=hid (hq.out 0 (by rw [<- HXX.out,<- HR'.out,Nat.div_eq_of_lt h1]));go_wp2_with fail;refine (ny r' b _ A' c3 c' _ (by omega) (by omega) hr2.cells hBw2.cells).mono ?_;rintro e w3 ⟨rfl,hb3⟩;rw [hcm.out];have hown3:=hown2.below hb3;have hr3:=hr2.below hb3;have hbel3:=hbel2.trans (hb3.mono hbel2.size);go_wp2_with fail;go_roundw
    case rel =>
     refine ⟨j,r',zs,_,c3,by omega,rfl,rfl,hr3,h1,hown3,hz,?_,fun i hi=>HZ.out i (by omega),hbel3⟩;have h5:=hset.out;rw [dset_same zs j hzj.out,<- HXX.out,<- HR'.out,Nat.mod_eq_of_lt h1] at h5;exact h5
    case measure=>simp [intOf]
   ·by_cases h2:r'=b
    ·have hcm:=hid (cmpI_eq (show (r':Int)=b by omega))
     have hset:=hid (hq.out 1 (by rw [<- HXX.out,<- HR'.out,h2,Nat.div_self hb0]));have h2':=hid h2;clear h2;go_wp2_with fail;refine (ny r' b _ A' c3 c' _ (by omega) (by omega) hr2.cells hBw2.cells).mono ?_;rintro e w3 ⟨rfl,hb3⟩;rw [hcm.out];have hown3:=hown2.below hb3;have hbel3:=hbel2.trans (hb3.mono hbel2.size);obtain ⟨g',hgg,_,_,hgc,hgf⟩:=hown3.at_ (by omega)
     injection hgg with hgg
     injection hgg with hgg _ _
     subst hgg
     have hld:w3.cell? ⟨g,j,none⟩=some (.int .i64 0):=by
      rw [hgc j (by omega),ng zs j (by have:=HZL.out;omega),hzj.out];rfl
     have hfr:=hgf j;have hst:=hown3.stored j (.int .i64 ((1:Nat):Int));rw [<- nu] at hst;have HST:=hid hst;clear hgc hgf hst;go_wp2_with fail;go_roundw
     case rel =>
      refine ⟨j,0,zs.set j 1,none,0,by omega,rfl,by rw [nZ];rfl,Nt.zero _,hb0,HST.out,Bi hz (by omega),?_,?_,hbel3.setCell hg1 _⟩
      ·have h5:=hset.out
       rw [<- HXX.out,<- HR'.out,h2'.out,Nat.mod_self] at h5;exact h5
      ·intro i hi
       rw [Ch _ _ _ _ (by have:=HZL.out;omega),if_neg (by omega)];exact HZ.out i (by omega)
     case measure=>simp [intOf]
    ·have hcm:=hid (cmpI_gt (show (b:Int)<r' by omega))
     obtain ⟨q,hqq⟩:∃ q,q=r' / b:=⟨_,rfl⟩
     have hset:=hid (hq.out q (by rw [<- HXX.out,<- HR'.out];exact hqq));have hqlt:q<1000000000:=by rw [hqq];exact Nat.div_lt_of_lt_mul hlt9
     have hbq:b*q<=r':=by rw [hqq];exact Nat.mul_div_le r' b
     have hrm:r' - b*q=r' % b:=by
      have:=Nat.div_add_mod r' b;rw [<- hqq] at this;omega
     have HRM:=hid hrm;have HQQ:=hid hqq;have hlr5:=nm hbq;obtain ⟨p,hp⟩:∃ p,p=b*q:=⟨_,rfl⟩
     have HPQ:=hid hp;clear hrm hqq;go_wp2_with fail;refine (ny r' b _ A' c3 c' _ (by omega) (by omega) hr2.cells hBw2.cells).mono ?_;rintro e w3 ⟨rfl,hb3⟩;rw [hcm.out];have hown3:=hown2.below hb3;have hr3:=hr2.below hb3;have hB3:=hBw2.below hb3;have hbel3:=hbel2.trans (hb3.mono hbel2.size);clear hp;go_wp2_with fail
     refine (bdigit_any r' b _ A' c3 c' _ hr3 hB3 (by omega) (by omega) hb0 hlt9).mono ?_;rintro e w4 ⟨rfl,hb4⟩;rw [<- HQQ.out];have hown4:=hown3.below hb4;have hr4:=hr3.below hb4;have hB4:=hB3.below hb4;have hbel4:=hbel3.trans (hb4.mono hbel3.size);obtain ⟨g',hgg,_,_,hgc,hgf⟩:=hown4.at_ (by omega);injection hgg with hgg
     injection hgg with hgg _ _
     subst hgg
     have hld:w4.cell? ⟨g,j,none⟩=some (.int .i64 0):=by
      rw [hgc j (by omega),ng zs j (by have:=HZL.out;omega),hzj.out];rfl
     have hfr:=hgf j;have hst:=hown4.stored j (.int .i64 (q:Int));rw [<- nu] at hst;have HST:=hid hst;clear hgc hgf hst;have hbel5:=hbel4.setCell (p:=⟨g,j,none⟩) hg1 (.int .i64 (q:Int));have hB5:=hB.below hbel5;have hr5:=hr4.setOther (show g3≠g by omega) j (.int .i64 (q:Int));have hT:=times_any b q A' c' _ hB5 (by omega) hqlt;rw [<- HPQ.out] at hT;have HT:=hid hT
     clear hT hB4 hB3 hBw2 hB hr4 hr3 hr2 hown4 hown3 hown2;go_wp2_with fail;refine HT.out.mono ?_;rintro e w6 ⟨A6,c6,rfl,hn6,hb6⟩;go_wp2_with fail;refine (minus_any r' p _ A6 c3 c6 _ (hr5.below hb6) hn6 (by omega) (by rw [HPQ.out];exact hbq)).mono ?_;rintro e w7 ⟨A7,c7,rfl,hn7,hb7⟩;rw [HPQ.out,HRM.out] at hn7 ⊢;have hbel6:=hbel5.trans (hb6.mono hbel5.size)
     have hbel7:=hbel6.trans (hb7.mono hbel6.size);go_wp2_with fail;go_roundw
     case rel =>
      refine ⟨j,r' % b,zs.set j q,A7,c7,by omega,rfl,rfl,hn7,hmodlt,(HST.out.below hb6).below hb7,Bi hz hqlt,?_,?_,hbel7⟩
      ·have h5:=hset.out
       rw [<- HXX.out,<- HR'.out] at h5;exact h5
      ·intro i hi
       rw [Ch _ _ _ _ (by have:=HZL.out;omega),if_neg (by omega)];exact HZ.out i (by omega)
     case measure=>simp [intOf]
def di (a b:List UInt8):Int:=if eT a b=0 then (if val b=0 then 10 else 0) else eT a b
def divQ (a b:List UInt8):List UInt8:=if di a b=0 then dec (val a / val b) else []
def divR (a b:List UInt8):List UInt8:=if di a b=0 then dec (val a % val b) else []
set_option maxHeartbeats 1000000 in
theorem div_any (a b:List UInt8) (w:World) (ha:a.length<=maxLen) (hb:b.length<=maxLen) (ht:Tb w) :
  Calls Tryz.prog 179 #[.string (B a),.string (B b)] w fun e w'=>e=.returned (.tuple #[.string (B (divQ a b)),.string (B (divR a b)),.int .i64 (di a b)])/\Below w.heap.size w w':=by
 by_cases he:eT a b=0
 ·obtain ⟨h1,h2,h3,h4⟩:=ez.1 he
  have hla:=Nl h1 h3;have hlb:=Nl h2 h4;by_cases h0:val b=0
  ·have hE:di a b=10:=by rw [di,if_pos he,if_pos h0]
   have HR:=hid (show divQ a b=[]/\divR a b=[]/\di a b=10 from ⟨by rw [divQ,hE];rfl,by rw [divR,hE];rfl,hE⟩);have hlen:=hid (show (nl (val b)).length=0 by rw [h0,nZ];rfl);clear he h0 hE;go_enter Tryz.func179,Tryz.ntmps179;go_wp2_with fail;refine (To a b _ h1 h2 h3 h4).mono ?_;rintro e w1 ⟨A,c,A',c',rfl,hA,hA',hb1⟩;rw [hlen.out];go_wp2_with fail;go_ret3
   exact ⟨by rw [HR.out.1,HR.out.2.1,HR.out.2.2];rfl,hb1⟩
  ·have hE:di a b=0:=by rw [di,if_pos he,if_neg h0]
   have HR:=hid (show divQ a b=dec (val a / val b)/\divR a b=dec (val a % val b)/\di a b=0 from ⟨by rw [divQ,if_pos hE],by rw [divR,if_pos hE],hE⟩);have hpos:0<val b:=by omega
   have hn1:0<(nl (val b)).length:=List.length_pos_iff.2 (fun e=>h0 (Aj.1 e));have hnb:(((nl (val b)).length:Int) == 0)=false:=by rw [beq_eq_false_iff_ne];omega
   have hq1:=nm (Nat.div_le_self (val a) (val b));have hq2:=nm (Nat.le_of_lt (Nat.mod_lt (val a) hpos));clear he h0 hE;go_enter Tryz.func179,Tryz.ntmps179;go_wp2_with fail;refine (To a b _ h1 h2 h3 h4).mono ?_;rintro e w1 ⟨A,c,A',c',rfl,hA,hA',hb1⟩;go_wp2_with fail;refine (divide_any (val a) (val b) A A' c c' _ hA hA' (by omega) (by omega) hpos).mono ?_
   rintro e w2 ⟨A1,c1,A2,c2,rfl,hn1,hn2,hb2⟩;go_wp2_with fail;refine (Sa _ A1 c1 _ hn1 (by omega) ((ht.below hb1).below hb2)).mono ?_;rintro e w3 ⟨rfl,hb3⟩;go_wp2_with fail;refine (Sa _ A2 c2 _ (hn2.below hb3) (by omega) (((ht.below hb1).below hb2).below hb3)).mono ?_;rintro e w4 ⟨rfl,hb4⟩;have h5:=hb1.trans (hb2.mono hb1.size);have h6:=h5.trans (hb3.mono h5.size);go_wp2_with fail
   go_ret3;exact ⟨by rw [HR.out.1,HR.out.2.1,HR.out.2.2];rfl,h6.trans (hb4.mono h6.size)⟩
 ·have hE:di a b=eT a b:=by rw [di,if_neg he]
  have HR:=hid (show divQ a b=[]/\divR a b=[]/\di a b=eT a b from ⟨by rw [divQ,hE,if_neg he],by rw [divR,hE,if_neg he],hE⟩);have hne:(eT a b != 0)=true:=by simpa using he
  clear hE;go_enter Tryz.func179,Tryz.ntmps179;go_wp2_with fail;refine (te a b _ ha hb he).mono ?_;rintro e w1 ⟨rfl,rfl⟩;clear he;go_wp2_with fail;go_ret3;exact ⟨by rw [HR.out.1,HR.out.2.1,HR.out.2.2];rfl,Below.refl _ _⟩
def gcdS (a b:List UInt8):List UInt8:=if eT a b=0 then Ax (Nat.gcd (val a) (val b)) else []
def gcdE (a b:List UInt8):Int:=if eT a b=0 then RE (Nat.gcd (val a) (val b)) else eT a b
theorem gcd_step {p q g:Nat} (hq:0<q) (h:Nat.gcd p q=g):Nat.gcd q (p % q)=g:=by
 rw [<- h,Nat.gcd_comm p q,Nat.gcd_comm q (p % q),<- Nat.gcd_rec]
set_option maxHeartbeats 1000000 in
theorem gcd_any (a b:List UInt8) (w:World) (ha:a.length<=maxLen) (hb:b.length<=maxLen) (ht:Tb w) :
  Calls Tryz.prog 152 #[.string (B a),.string (B b)] w fun e w'=>e=.returned (.tuple #[.string (B (gcdS a b)),.int .i64 (gcdE a b)])/\Below w.heap.size w w':=by
 by_cases he:eT a b=0
 ·obtain ⟨h1,h2,h3,h4⟩:=ez.1 he
  have HR:=hid (show gcdS a b=Ax (Nat.gcd (val a) (val b))/\gcdE a b=RE (Nat.gcd (val a) (val b)) from ⟨if_pos he,if_pos he⟩);have hla:=Nl h1 h3;have hlb:=Nl h2 h4;clear he;go_enter Tryz.func152,Tryz.ntmps152;go_wp2_with fail;refine (To a b _ h1 h2 h3 h4).mono ?_;rintro e w1 ⟨A,c,A',c',rfl,hA,hA',hb1⟩;obtain ⟨g,hg⟩:∃ g,Nat.gcd (val a) (val b)=g:=⟨_,rfl⟩
  have HG:=hid hg;go_wp2_with fail;go_loopg [6,7] (val b) (fun gk x y wr=>∃ (p q:Nat) (A1:Option Addr) (c1:Nat) (A2:Option Addr) (c2:Nat),x=.slice A1 (nl p).length c1/\y=.slice A2 (nl q).length c2/\Nt wr A1 c1 p/\Nt wr A2 c2 q/\Nat.gcd p q=g /\
   q<=gk/\(nl p).length<=4096/\(nl q).length<=4096/\Below w.heap.size w wr)
  case atStart=>exact ⟨val a,val b,A,c,A',c',rfl,rfl,hA,hA',hg,Nat.le_refl _,hla,hlb,hb1⟩
  case round =>
   obtain ⟨p,q,A1,c1,A2,c2,rfl,rfl,hP,hQ,hgc,hqk,hpl,hql,hbel⟩:=hrel;clear hg;have HGC:=hid hgc;clear hgc;by_cases hq0:q=0
   ·have hlen:=hid (show (nl q).length=0 by rw [hq0,nZ];rfl)
    have hp:p=g:=by have:=HGC.out;rw [hq0,Nat.gcd_zero_right] at this;exact this
    have HPG:=hid hp;clear hp hq0;rw [hlen.out];go_wp2_with fail;refine (ry p A1 c1 _ hP (by omega) (ht.below hbel)).mono ?_;rintro e w3 ⟨rfl,hb3⟩;go_wp2_with fail;go_ret2;exact ⟨by rw [HR.out.1,HR.out.2,HG.out,HPG.out];rfl,hbel.trans (hb3.mono hbel.size)⟩
   ·have hpos:0<q:=by omega
    have hn1:0<(nl q).length:=List.length_pos_iff.2 (fun e=>hq0 (Aj.1 e));have hml:=Nat.mod_lt p hpos;have hq2:=nm (Nat.le_of_lt hml);have HS:=hid (gcd_step hpos HGC.out);clear hq0;go_wp2_with fail;refine (divide_any p q A1 A2 c1 c2 _ hP hQ (by omega) (by omega) hpos).mono ?_;rintro e w2 ⟨A3,c3,A4,c4,rfl,hn3,hn4,hb2⟩;go_wp2_with fail;go_roundg (p % q)
    case measure=>omega
    case rel=>exact ⟨q,p % q,A2,c2,A4,c4,rfl,rfl,hQ.below hb2,hn4,HS.out,Nat.le_refl _,hql,by omega,hbel.trans (hb2.mono hbel.size)⟩
 ·have HR:=hid (show gcdS a b=[]/\gcdE a b=eT a b from ⟨if_neg he,if_neg he⟩)
  have hne:(eT a b != 0)=true:=by simpa using he
  go_enter Tryz.func152,Tryz.ntmps152;go_wp2_with fail;refine (te a b _ ha hb he).mono ?_;rintro e w1 ⟨rfl,rfl⟩;clear he;go_wp2_with fail;go_ret2;exact ⟨by rw [HR.out.1,HR.out.2];rfl,Below.refl _ _⟩
end Go.Proofs.YtjcekdiocliddaaGreatDoor

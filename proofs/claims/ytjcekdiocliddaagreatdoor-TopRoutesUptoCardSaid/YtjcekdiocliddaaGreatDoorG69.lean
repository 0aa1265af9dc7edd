/- lorryref07.Check. -/
import Derived.Test.YtjcekdiocliddaaGreatDoorG66
namespace Go.Proofs.YtjcekdiocliddaaGreatDoor
open Lib (hid)
open Go.RowKit Num Txt Pf Tk
set_option maxHeartbeats 32000000
set_option maxRecDepth 100000
set_option linter.unusedVariables false
attribute [local go_sem] BS Bg Bt Bm Be Ba
def bt (p:Int × Int):Bool:=decide (p.1<0) || decide (4096<p.1) || decide (p.2<p.1) || decide (p.1+4096<p.2)
def bN (q p:Int × Int):Bool:=decide (p.1<=q.1) || decide (p.2<q.2)
theorem ptsOK_of {ps:List (Int × Int)} (h1:0<ps.length) (h2:ps.length<=16) (h3:∀ i (h:i<ps.length),bt ps[i]=false) (h4:∀ i (h:i+1<ps.length),bN (ps[i]'(by omega)) ps[i+1]=false):PO ps:=by
 refine ⟨h1,h2,fun p hp=>?_,fun i h=>?_⟩
 ·obtain ⟨i,hi,rfl⟩:=List.getElem_of_mem hp
  have:=h3 i hi;unfold bt at this;simp only [Bool.or_eq_false_iff,decide_eq_false_iff_not] at this;omega
 ·have:=h4 i h
  unfold bN at this;simp only [Bool.or_eq_false_iff,decide_eq_false_iff_not] at this;omega
theorem rtcheck_any (ps:List (Int × Int)) (A:Option Addr) (c:Nat) (w:World) (hc:Cs w A (ps.flatMap PC)) (hn:ps.length<=c/\c<=maxLen) (hf:∀ p ∈ ps,F2 p) (hl:ps.length<=1048576) :
  Calls Tryz.prog 141 #[.slice A ps.length c] w (FlE (2*ps.length+1) 21 (PO ps) w):=by
 unfold maxLen at hn;have HC:=hid hc;have HF:=hid hf;clear hc hf;go_enter Tryz.func141,Tryz.ntmps141;(try simp only [Bm]);obtain ⟨sz,hsz⟩:∃ sz:Bool,sz=(decide (ps.length<1) || decide (16<ps.length)):=⟨_,rfl⟩
 go_upto_region 2 with fail;go_cut [13] (fun s wx=>s=.bool sz/\wx=w)
 case first =>
  by_cases h1:ps.length<1
  ·have i1:(ps.length:Int)<1:=by omega
   have hs:sz=true:=by rw [hsz,decide_eq_true h1];rfl
   clear h1 hsz;go_wp2_with fail;go_meet;exact ⟨by rw [hs],rfl⟩
  ·have i1:¬ (ps.length:Int)<1:=by omega
   by_cases h2:16<ps.length
   ·have i2:(16:Int)<(ps.length:Int):=by omega
    have hs:sz=true:=by rw [hsz,decide_eq_true h2];simp
    clear h1 h2 hsz;go_wp2_with fail;go_meet;exact ⟨by rw [hs],rfl⟩
   ·have i2:¬ (16:Int)<(ps.length:Int):=by omega
    have hs:sz=false:=by rw [hsz,decide_eq_false h1,decide_eq_false h2];rfl
    clear h1 h2 hsz;go_wp2_with fail;go_meet;exact ⟨by rw [hs],rfl⟩
 case rest =>
  obtain ⟨rfl,hw⟩:=hcut;obtain rfl:=hw.symm;have HSZ:=hid hsz;clear hsz;go_upto_if 13 with (fail)
  go_cut [3] (fun l wx=>∃ (A':Option Addr) (c':Nat) (fs:List (Int × Sr)),l=.slice A' fs.length c'/\FO wx w.heap.size A' c' fs/\fZ 21 fs/\fs.length<=1/\(fs=[]->0<ps.length/\ps.length<=16)/\Below w.heap.size w wx)
  case first =>
   cases sz with
   |true =>
    go_wp2_with (at_builtin;refine wt ef rfl _ _ rfl rfl rfl rfl w.heap.size none 0 [] w 4 [] rfl (OR.nil _ _ _ _) rfl (by decide) (Nat.le_refl _) ?_;intro A' c' w3 hown3 hb3 _)
    go_meet;exact ⟨A',c',[(4,[])],rfl,hown3,fZ.nil.snoc (by decide) (by decide),Nat.le_refl _,fun h=>absurd h (by simp),hb3⟩
   |false =>
    go_wp2_with fail;go_meet;refine ⟨none,0,[],rfl,OR.nil _ _ _ _,fZ.nil,Nat.zero_le _,fun _=>?_,Below.refl _ _⟩;have h:=HSZ.out.symm;rw [Bool.or_eq_false_iff,decide_eq_false_iff_not,decide_eq_false_iff_not] at h;omega
  case rest =>
   obtain ⟨A1,c1,fs1,rfl,hown1,hfs1,hl1,hok1,hb1⟩:=hcut;have HO1:=hid hown1;have HF1:=hid hfs1;have HK1:=hid hok1;have HB1:=hid hb1;clear hown1 hfs1 hok1 hb1 HSZ;go_wp2_with fail
   go_loopw [3,4,5] (fun l i _ wr=>∃ (k:Nat) (A':Option Addr) (c':Nat) (fs:List (Int × Sr)),k<=ps.length/\i=.int .i64 k/\l=.slice A' fs.length c'/\FO wr w.heap.size A' c' fs/\fZ 21 fs/\fs.length<=2*k+1/\(fs=[]->(0<ps.length/\ps.length<=16)/\(∀ i (h:i<ps.length),i<k->bt ps[i]=false)/\∀ i (h:i+1<ps.length),i+1<k->bN (ps[i]'(by omega)) ps[i+1]=false)/\Below w.heap.size w wr) (fun _ i _ _=>ps.length - (intOf i).toNat)
   case atStart=>exact ⟨0,A1,c1,fs1,by omega,rfl,rfl,HO1.out,HF1.out,by omega,fun h=>⟨HK1.out h,fun i h hi=>by omega,fun i h hi=>by omega⟩,HB1.out⟩
   case round =>
    clear HO1 HF1 HK1 HB1;obtain ⟨k,A',c',fs,hk,rfl,rfl,hown,hfs,hlen,hok,hbel⟩:=hrel;have HO:=hid hown;have HFS:=hid hfs;have HOK:=hid hok;have HBL:=hid hbel;clear hown hfs hok hbel;by_cases hlt:k<ps.length
    ·have hlt1:(k:Int)<(ps.length:Int):=by omega
     obtain ⟨g1,o1,hA1,hg1,hx1⟩:=eP pC (by decide) HC.out (by omega);subst hA1;have hx3:=hx1 k hlt;have c0:=(HBL.out.cell (p:=⟨g1,o1+k*2,none⟩) hg1).trans (hx3 0 (.int .i64 ps[k].1) rfl);have c1':=(HBL.out.cell (p:=⟨g1,o1+k*2+1,none⟩) hg1).trans (hx3 1 (.int .i64 ps[k].2) rfl);obtain ⟨n4,p4⟩:=Na wr (.cells #[.int .i64 ps[k].1,.int .i64 ps[k].2] 74)
     have hfit:=HF.out _ (List.getElem_mem hlt);have HB4:=hid (bL HBL.out n4);have HO4:=hid (HO.out.below n4)
     have HX:=hid (fun (wn:World) (hb:Below w.heap.size w wn) (i:Nat) (hi:i<ps.length)=>(⟨(hb.cell (p:=⟨g1,o1+i*2,none⟩) hg1).trans (hx1 i hi 0 (.int .i64 ps[i].1) rfl),(hb.cell (p:=⟨g1,o1+i*2+1,none⟩) hg1).trans (hx1 i hi 1 (.int .i64 ps[i].2) rfl)⟩:wn.cell? ⟨g1,o1+i*2,none⟩=some (.int .i64 ps[i].1)/\wn.cell? ⟨g1,o1+i*2+1,none⟩=some (.int .i64 ps[i].2)))
     have HPK:=hid (show ∃ p,p=ps[k] from ⟨_,rfl⟩);clear hx1 hx3 n4;go_upto_region 8 with fail;clear c0 c1';obtain ⟨p,hp⟩:=HPK.out;have hpp:ps[k]=p:=hp.symm;rw [hpp] at p4 hfit HB4 HO4;simp only [hpp];generalize wr.alloc (.cells #[.int .i64 p.1,.int .i64 p.2] 74)=w4 at *;have HPP:=hid hpp;clear hpp hp HPK;have hpr:p.1<=9223372036854775807:=hfit.1.2;have HP4:=hid p4
     have hk64:fits (k:Int):=by unfold fits;omega
     go_cut [50] (fun s wx=>s=.bool (bt p)/\wx=w4)
     case first =>
      obtain ⟨c0,c1'⟩:=C2 p4;clear p4;by_cases h1:p.1<0
      ·have hb:bt p=true:=by unfold bt;rw [decide_eq_true h1];rfl
       go_wp2_with fail;go_meet;exact ⟨by rw [hb],rfl⟩
      ·by_cases h2:4096<p.1
       ·have hb:bt p=true:=by unfold bt;rw [decide_eq_true h2];simp
        go_wp2_with fail;go_meet;exact ⟨by rw [hb],rfl⟩
       ·by_cases h3:p.2<p.1
        ·have hb:bt p=true:=by unfold bt;rw [decide_eq_true h3];simp
         go_wp2_with fail;go_meet;exact ⟨by rw [hb],rfl⟩
        ·by_cases h4:p.1+4096<p.2
         ·have hb:bt p=true:=by unfold bt;rw [decide_eq_true h4];simp
          go_wp2_with fail;go_meet;exact ⟨by rw [hb],rfl⟩
         ·have hb:bt p=false:=by unfold bt;rw [decide_eq_false h1,decide_eq_false h2,decide_eq_false h3,decide_eq_false h4];rfl
          go_wp2_with fail;go_meet;exact ⟨by rw [hb],rfl⟩
     case rest =>
      obtain ⟨rfl,hw4⟩:=hcut;obtain rfl:=hw4.symm;have HBA:=hid (show ∃ ba,ba=bt p from ⟨_,rfl⟩);obtain ⟨ba,hba⟩:=HBA.out;rw [<- hba];have HBA:=hid hba;clear hba p4;go_upto_if 50 with (fail)
      go_cut [3] (fun l wx=>∃ (A2:Option Addr) (c2:Nat) (fs2:List (Int × Sr)),l=.slice A2 fs2.length c2/\FO wx w.heap.size A2 c2 fs2/\fZ 21 fs2/\fs2.length<=fs.length+1/\(fs2=[]->fs=[]/\ba=false)/\Below w.heap.size w wx/\wx.heap[wr.heap.size]? = some (.cells #[.int .i64 p.1,.int .i64 p.2] 74))
      case first =>
       cases ba with
       |true =>
        have HDC:=hid (rA (k:Int) w4 hk64);have hdl:=Pf.decI_len hk64;go_wp2_with fail;refine HDC.out.mono ?_;rintro e w5 ⟨rfl,hb5⟩;have ho5:=HO4.out.below hb5;go_wp2_with (at_builtin;refine wt ef rfl _ _ rfl rfl rfl rfl w.heap.size _ _ fs w5 2 (dI (k:Int)) rfl ho5 rfl (by omega) (bL HB4.out hb5).size ?_;intro A2 c2 w6 hown6 hb6 hkp6)
        go_meet;exact ⟨A2,c2,_,by rw [sL],hown6,HFS.out.snoc hdl (by decide),Nat.le_of_eq (sL _ _),sN,(bL HB4.out hb5).trans hb6,hkp6.row (rK HP4.out hb5) (ho5.far (rK HP4.out hb5) flt_type)⟩
       |false =>
        go_wp2_with fail;go_meet;exact ⟨A',c',fs,rfl,HO4.out,HFS.out,by omega,fun h=>⟨h,by first | rfl | trivial⟩,HB4.out,HP4.out⟩
      case rest =>
       obtain ⟨A2,c2,fs2,rfl,hown2,hfs2,hlen2,hok2,hb2,hrow2⟩:=hcut;have HO2:=hid hown2;have HF2:=hid hfs2;have HK2:=hid hok2;have HB2:=hid hb2;have HP2:=hid hrow2;clear hown2 hfs2 hok2 hb2 hrow2 HO4 HFS HB4 HBL HO;go_upto_region 10 with fail
       go_cut [80] (fun s wx=>(∃ bb:Bool,s=.bool bb/\(∀ h:0<k,bb=bN (ps[k - 1]'(by omega)) p))/\FO wx w.heap.size A2 c2 fs2/\Below w.heap.size w wx)
       case first =>
        have HEND:=hid (show ∀ nq,FO (wc.drewN nq) w.heap.size A2 c2 fs2/\Below w.heap.size w (wc.drewN nq) from fun nq=>⟨HO2.out.below (below_drewN (Below.refl _ _) nq),below_drewN HB2.out nq⟩);by_cases h0:0<k
        ·have h0i:(0:Int)<(k:Int):=by omega
         obtain ⟨c0,c1'⟩:=C2 HP2.out;have hkm:(k:Int) - 1=((k - 1:Nat):Int):=by omega
         obtain ⟨d0,d1⟩:=HX.out wc HB2.out (k - 1) (by omega);have hi1:k - 1<ps.length:=by omega
         obtain ⟨q,hq⟩:∃ q,ps[k - 1]'(by omega)=q:=⟨_,rfl⟩
         rw [hq] at d0 d1;have HQ:=hid hq;clear hq;by_cases h1:p.1<=q.1
         ·have hb:bN q p=true:=by unfold bN;rw [decide_eq_true h1];rfl
          have hd:decide (p.1<=q.1)=true:=decide_eq_true h1;go_quiet (fail)
          go_wp2_with fail;go_meet;exact ⟨⟨true,rfl,fun _=>by rw [HQ.out];exact hb.symm⟩,HEND.out nq⟩
         ·have hd:decide (p.1<=q.1)=false:=decide_eq_false h1
          by_cases h2:p.2<q.2
          ·have hb:bN q p=true:=by unfold bN;rw [decide_eq_true h2];simp
           have hd2:decide (p.2<q.2)=true:=decide_eq_true h2;go_quiet (fail)
           go_wp2_with fail;go_meet;exact ⟨⟨true,rfl,fun _=>by rw [HQ.out];exact hb.symm⟩,HEND.out nq⟩
          ·have hb:bN q p=false:=by unfold bN;rw [decide_eq_false h1,decide_eq_false h2];rfl
           have hd2:decide (p.2<q.2)=false:=decide_eq_false h2;go_quiet (fail)
           go_wp2_with fail;go_meet;exact ⟨⟨false,rfl,fun _=>by rw [HQ.out];exact hb.symm⟩,HEND.out nq⟩
        ·have h0i:¬ (0:Int)<(k:Int):=by omega
         have hd0:decide ((0:Int)<(k:Int))=false:=decide_eq_false h0i;go_quiet (fail)
         go_wp2_with fail;go_meet;exact ⟨⟨false,rfl,fun h=>absurd h h0⟩,HEND.out nq⟩
       case rest =>
        obtain ⟨⟨bb,rfl,hbb⟩,hown3,hb3⟩:=hcut;have HBB:=hid hbb;have HO3:=hid hown3;have HB3:=hid hb3;clear hbb hown3 hb3 HO2 HB2 HP2
        cases bb with
        |true =>
         have HDC:=hid (rA (k:Int) wc hk64);have hdl:=Pf.decI_len hk64;go_wp2_with fail;refine HDC.out.mono ?_;rintro e w5 ⟨rfl,hb5⟩;have ho5:=HO3.out.below hb5;go_wp2_with (at_builtin;refine wt ef rfl _ _ rfl rfl rfl rfl w.heap.size _ _ fs2 w5 13 (dI (k:Int)) rfl ho5 rfl (by omega) (bL HB3.out hb5).size ?_;intro A3 c3 w6 hown6 hb6 hkp6)
         go_roundw
         case rel=>exact ⟨k+1,A3,c3,_,by omega,by go_num,by rw [sL],hown6,HF2.out.snoc hdl (by decide),by rw [sL];omega,sN,(bL HB3.out hb5).trans hb6⟩
         case measure=>simp [intOf];omega
        |false =>
         go_wp2_with fail;go_roundw
         case rel =>
          refine ⟨k+1,A2,c2,fs2,by omega,by go_num,rfl,HO3.out,HF2.out,by omega,fun h=>?_,HB3.out⟩;obtain ⟨h1,h2⟩:=HK2.out h;obtain ⟨h3,h4,h5⟩:=HOK.out h1;refine ⟨h3,fun i hi hik=>?_,fun i hi hik=>?_⟩
          ·rcases Nat.lt_or_eq_of_le (Nat.le_of_lt_succ hik) with h6 | h6
           ·exact h4 i hi h6
           ·subst h6;rw [HPP.out,<- HBA.out];exact h2
          ·rcases Nat.lt_or_eq_of_le (Nat.le_of_lt_succ hik) with h6 | h6
           ·exact h5 i hi h6
           ·have h7:=HBB.out (by omega)
            subst h6;rw [HPP.out];exact h7.symm
         case measure=>simp [intOf];omega
    ·have hlt1:¬ (k:Int)<(ps.length:Int):=by omega
     go_wp2_with fail;go_ret;refine ⟨A',c',fs,rfl,HO.out,HFS.out,by omega,fun h=>?_,HBL.out⟩;obtain ⟨⟨h3,h3'⟩,h4,h5⟩:=HOK.out h;exact ptsOK_of h3 h3' (fun i hi=>h4 i hi (by omega)) (fun i hi=>h5 i hi (by omega))
def IR (n lo hi:Int):Bool:=decide (lo<=n) && decide (n<=hi)
theorem iR {n lo hi:Int}:IR n lo hi=true↔lo<=n/\n<=hi:=by unfold IR;simp
theorem iN {n lo hi:Int} (h1:lo<=n) (h2:n<=hi):IR n lo hi=true:=iR.2 ⟨h1,h2⟩
theorem inR_f1 {n lo hi:Int} (h1:¬ lo<=n):IR n lo hi=false:=by unfold IR;rw [decide_eq_false h1];rfl
theorem inR_f2 {n lo hi:Int} (h1:¬ n<=hi):IR n lo hi=false:=by unfold IR;rw [decide_eq_false h1];simp
theorem Ra (t:Int) (w:World):Calls Tryz.prog 142 #[.int .i64 t] w fun e w'=>e=.returned (.bool (IR t 0 4096))/\w'=w:=by
 by_cases h1:0<=t
 ·by_cases h2:t<=4096
  ·have HR:=hid (iN h1 h2)
   go_enter Tryz.func142,Tryz.ntmps142;go_wp2_with fail;go_ret;exact ⟨rb HR.out.symm,rfl⟩
  ·have HR:=hid (inR_f2 (lo:=0) h2)
   go_enter Tryz.func142,Tryz.ntmps142;go_wp2_with fail;go_ret;exact ⟨rb HR.out.symm,rfl⟩
 ·have HR:=hid (inR_f1 (hi:=4096) h1)
  go_enter Tryz.func142,Tryz.ntmps142;go_wp2_with fail;go_ret;exact ⟨rb HR.out.symm,rfl⟩
theorem I1 (n lo hi:Int) (w:World):Calls Tryz.prog 100 #[.int .i64 n,.int .i64 lo,.int .i64 hi] w fun e w'=>e=.returned (.bool (IR n lo hi))/\w'=w:=by
 by_cases h1:lo<=n
 ·by_cases h2:n<=hi
  ·have HR:=hid (iN h1 h2)
   go_enter Tryz.func100,Tryz.ntmps100;go_wp2_with fail;go_ret;exact ⟨rb HR.out.symm,rfl⟩
  ·have HR:=hid (inR_f2 (lo:=lo) h2)
   go_enter Tryz.func100,Tryz.ntmps100;go_wp2_with fail;go_ret;exact ⟨rb HR.out.symm,rfl⟩
 ·have HR:=hid (inR_f1 (hi:=hi) h1)
  go_enter Tryz.func100,Tryz.ntmps100;go_wp2_with fail;go_ret;exact ⟨rb HR.out.symm,rfl⟩
theorem iY (n lo hi:Int) (w:World):Calls Tryz.prog 146 #[.int .i64 n,.int .i64 lo,.int .i64 hi] w fun e w'=>e=.returned (.bool (IR n lo hi))/\w'=w:=by
 by_cases h1:lo<=n
 ·by_cases h2:n<=hi
  ·have HR:=hid (iN h1 h2)
   go_enter Tryz.func146,Tryz.ntmps146;go_wp2_with fail;go_ret;exact ⟨rb HR.out.symm,rfl⟩
  ·have HR:=hid (inR_f2 (lo:=lo) h2)
   go_enter Tryz.func146,Tryz.ntmps146;go_wp2_with fail;go_ret;exact ⟨rb HR.out.symm,rfl⟩
 ·have HR:=hid (inR_f1 (hi:=hi) h1)
  go_enter Tryz.func146,Tryz.ntmps146;go_wp2_with fail;go_ret;exact ⟨rb HR.out.symm,rfl⟩
theorem dec12_any (n:Int) (w:World) (h0:0<=n) (h1:n<10):Calls Tryz.prog 148 #[.int .i64 n] w fun e w'=>(∃ s:Sr,e=.returned (.string (B s))/\s.length<=20)/\Below w.heap.size w w':=by
 go_enter Tryz.func148,Tryz.ntmps148;(try simp only [Bm]);go_wp2_with fail;go_loopw [0,3] (fun n' s wr=>n'=.int .i64 n/\s=.string (B [])/\Below w.heap.size w wr) (fun _ _ _=>0)
 case atStart=>exact ⟨rfl,rfl,Below.refl _ _⟩
 case round =>
  obtain ⟨rfl,rfl,hb⟩:=hrel;have HB:=hid hb;clear hb;have hn:¬ (10:Int)<=n:=by omega
  have c1:=one_byte wr (48+n) (by omega) (by omega);go_wp2_with fail;go_ret;exact ⟨⟨_,rfl,by simp⟩,HB.out.alloc HB.out.size _⟩
theorem iK (l:List Int) (k:Nat) (h:k<l.length):(ints l)[k]? = some (.int .i64 l[k]):=by unfold ints;rw [List.getElem?_map,List.getElem?_eq_getElem h];rfl
theorem str_bt {a b:List UInt8} (h:a=b):(a == b)=true:=by simp [h]
theorem str_bf {a b:List UInt8} (h:¬ a=b):(a == b)=false:=by simpa using h
theorem iB {a b:Int} (h:a=b):(a == b)=true:=by simp [h]
theorem ib {a b:Int} (h:¬ a=b):(a == b)=false:=by simpa using h
def SomeB (e:Ending):Prop:=∃ b:Bool,e=.returned (.bool b)
def capB (l:List Int) (d:Int):Bool:=IR (l.length:Int) 1 3 && (l.length:Int) == d && l.all fun n=>IR n 0 1000
theorem all_take {α:Type} {p:α->Bool} {l:List α} {k:Nat} (h:k<l.length) (h1:(l.take k).all p=true) (h2:p l[k]=true):(l.take (k+1)).all p=true:=by
 rw [List.take_succ_eq_append_getElem h,List.all_append,h1];simpa using h2
theorem all_not {α:Type} {p:α->Bool} {l:List α} {k:Nat} (h:k<l.length) (h2:p l[k]=false):l.all p=false:=by
 rw [List.all_eq_false];exact ⟨l[k],List.getElem_mem h,by rw [h2];simp⟩
theorem cap10_any (l:List Int) (A:Option Addr) (c:Nat) (d:Int) (w:World) (hc:Cs w A (ints l)) (hn:l.length<=c/\c<=maxLen):Calls Tryz.prog 144 #[.slice A l.length c,.int .i64 d] w fun e w'=>e=.returned (.bool (capB l d))/\w'=w:=by
 unfold maxLen at hn;have HC:=hid hc;have HR:=hid (show capB l d=(IR (l.length:Int) 1 3 && (l.length:Int) == d && l.all fun n=>IR n 0 1000) from rfl);clear hc;go_enter Tryz.func144,Tryz.ntmps144;go_wp2_with fail;refine (I1 (l.length:Int) 1 3 w).mono ?_;rintro e w' ⟨rfl,rfl⟩;by_cases h1:IR (l.length:Int) 1 3=true
 ·rw [h1]
  by_cases h2:(l.length:Int)=d
  ·have h3:((l.length:Int) != d)=false:=by simpa using h2
   have HR2:=hid (show capB l d=l.all fun n=>IR n 0 1000 by rw [HR.out,h1,iB h2];rfl);clear h2 h1 HR;go_wp2_with fail;go_loopw [5] (fun i wr=>∃ k:Nat,k<=l.length/\i=.int .i64 k/\(l.take k).all (fun n=>IR n 0 1000)=true/\wr=w') (fun i _=>l.length - (intOf i).toNat)
   case atStart=>exact ⟨0,Nat.zero_le _,rfl,by simp,by trivial⟩
   case round =>
    obtain ⟨k,hk,rfl,hall,rfl⟩:=hrel;have HA:=hid hall;clear hall;by_cases hlt:k<l.length
    ·have hlt1:(k:Int)<(l.length:Int):=by omega
     obtain ⟨g1,o1,hA1,hg1,hx⟩:=HC.out (by rw [il];omega);subst hA1;have hx1:=hx k _ (iK l k hlt);have HT:=hid (fun h=>all_take (p:=fun n=>IR n 0 1000) hlt HA.out h);have HN:=hid (fun h=>all_not (p:=fun n=>IR n 0 1000) hlt h);clear hx;go_wp2_with fail;refine (I1 _ 0 1000 _).mono ?_;rintro e w2 ⟨rfl,rfl⟩
     cases hb:IR l[k] 0 1000 with
     |true =>
      have HB:=hid hb;clear hb;go_wp2_with fail;go_roundw
      case rel=>exact ⟨k+1,by omega,by go_num,HT.out HB.out,by trivial⟩
      case measure=>simp [intOf];omega
     |false =>
      have HB:=hid hb;clear hb;go_wp2_with fail;go_ret;exact ⟨rb (by rw [HR2.out,HN.out HB.out]),rfl⟩
    ·have hlt1:¬ (k:Int)<(l.length:Int):=by omega
     have HE:=hid (show k=l.length by omega);go_wp2_with fail;go_ret;exact ⟨rb (by rw [HR2.out];have h:=HA.out;rw [HE.out,List.take_length] at h;exact h.symm),rfl⟩
  ·have h3:((l.length:Int) != d)=true:=by simpa using h2
   have HR2:=hid (show capB l d=false by rw [HR.out,ib h2];simp);clear h2 h1;go_wp2_with fail;go_ret;exact ⟨rb HR2.out.symm,rfl⟩
 ·have h2:IR (l.length:Int) 1 3=false:=by simpa using h1
  have HR2:=hid (show capB l d=false by rw [HR.out,h2];rfl);rw [h2];clear h1 h2;go_wp2_with fail;go_ret;exact ⟨rb HR2.out.symm,rfl⟩
def rB (l:List Int) (d:Int):Bool:=(l.length:Int) == d && l.all fun n=>IR n 0 1000
theorem right06_any (l:List Int) (A:Option Addr) (c:Nat) (d:Int) (w:World) (hc:Cs w A (ints l)) (hn:l.length<=c/\c<=maxLen):Calls Tryz.prog 145 #[.slice A l.length c,.int .i64 d] w fun e w'=>e=.returned (.bool (rB l d))/\w'=w:=by
 unfold maxLen at hn;have HC:=hid hc;have HR:=hid (show rB l d=((l.length:Int) == d && l.all fun n=>IR n 0 1000) from rfl);clear hc;go_enter Tryz.func145,Tryz.ntmps145;by_cases h2:(l.length:Int)=d
 ·have h3:((l.length:Int) != d)=false:=by simpa using h2
  have HR2:=hid (show rB l d=l.all fun n=>IR n 0 1000 by rw [HR.out,iB h2];rfl);clear h2;go_wp2_with fail;go_loopw [5] (fun i wr=>∃ k:Nat,k<=l.length/\i=.int .i64 k/\(l.take k).all (fun n=>IR n 0 1000)=true/\wr=w) (fun i _=>l.length - (intOf i).toNat)
  case atStart=>exact ⟨0,Nat.zero_le _,rfl,rfl,by trivial⟩
  case round =>
   obtain ⟨k,hk,rfl,hal,rfl⟩:=hrel;have HAL:=hid hal;clear hal;by_cases hlt:k<l.length
   ·have hlt1:(k:Int)<(l.length:Int):=by omega
    obtain ⟨g1,o1,hA1,hg1,hx⟩:=HC.out (by rw [il];omega);subst hA1;have hx1:=hx k _ (iK l k hlt);have HY:=hid (fun (h:IR l[k] 0 1000=true)=>all_take hlt HAL.out h);have HN:=hid (fun (h:IR l[k] 0 1000=false)=>HR2.out.trans (all_not (p:=fun n=>IR n 0 1000) hlt h));clear hx;generalize l[k]=v at *;by_cases h1:v<0
    ·have HN1:=hid (HN.out (inR_f1 (by omega)))
     clear HN HY;go_wp2_with fail;go_ret;exact ⟨rb HN1.out.symm,rfl⟩
    ·by_cases h2:1000<v
     ·have HN1:=hid (HN.out (inR_f2 (by omega)))
      clear HN HY;go_wp2_with fail;go_ret;exact ⟨rb HN1.out.symm,rfl⟩
     ·have HY1:=hid (HY.out (iN (by omega) (by omega)))
      clear HN HY;go_wp2_with fail;go_roundw
      case rel=>exact ⟨k+1,by omega,by go_num,HY1.out,by trivial⟩
      case measure=>simp [intOf];omega
   ·have hlt1:¬ (k:Int)<(l.length:Int):=by omega
    have HE:=hid (show rB l d=true by rw [HR2.out,<- HAL.out,List.take_of_length_le (by omega)]);go_wp2_with fail;go_ret;exact ⟨rb HE.out.symm,rfl⟩
 ·have h3:((l.length:Int) != d)=true:=by simpa using h2
  have HR2:=hid (show rB l d=false by rw [HR.out,ib h2];rfl);clear h2;go_wp2_with fail;go_ret;exact ⟨rb HR2.out.symm,rfl⟩
theorem typ_at {w:World} {A:Option Addr} {l:List Ty} (h:Cs w A (l.flatMap Ty.cells)) (h0:0<l.length) :
  ∃ b off,A=some ⟨b,off,none⟩/\b<w.heap.size/\∀ i (hi:i<l.length) j v,(l[i].cells)[j]? = some v->w.cell? ⟨b,off+i*14+j,none⟩=some v:=eP Ty.cells_len (by decide) h h0
theorem known10_any (l:List Ty) (A:Option Addr) (c:Nat) (n:Nat) (s:Sr) (w:World) (hc:Cs w A (l.flatMap Ty.cells)) (hn:l.length<=c/\c<=maxLen) (hk:n<=l.length) (hs:s.length<=maxLen) (hf:∀ t ∈ l,t.t.name.length<=maxLen) :
  Calls Tryz.prog 143 #[.slice A l.length c,.int .i64 n,.string (B s)] w fun e w'=>SomeB e/\w'=w:=by
 unfold maxLen at hn hs;have HC:=hid hc;have HF:=hid hf;clear hc hf;go_enter Tryz.func143,Tryz.ntmps143;go_wp2_with fail;go_loopw [7] (fun i wr=>∃ k:Nat,k<=n/\i=.int .i64 k/\wr=w) (fun i _=>n - (intOf i).toNat)
 case atStart=>exact ⟨0,Nat.zero_le _,rfl,by trivial⟩
 case round =>
  obtain ⟨k,hkn,rfl,rfl⟩:=hrel;by_cases hlt:k<n
  ·have hlt1:(k:Int)<(n:Int):=by omega
   have hlt2:k<l.length:=by omega
   obtain ⟨g1,o1,hA1,hg1,hx⟩:=typ_at HC.out (by omega);subst hA1;have hx0:=hx k hlt2 0 _ rfl;rw [Nat.add_zero] at hx0;have hl:=HF.out _ (List.getElem_mem hlt2);unfold maxLen at hl;clear hx;generalize l[k]=v at *;by_cases h1:v.t.name=s
   ·have hb2:=str_bt h1
    clear h1;go_wp2_with fail;go_ret;exact ⟨⟨true,rfl⟩,rfl⟩
   ·have hb2:=str_bf h1
    clear h1;go_wp2_with fail;go_roundw
    case rel=>exact ⟨k+1,by omega,by go_num,by trivial⟩
    case measure=>simp [intOf];omega
  ·have hlt1:¬ (k:Int)<(n:Int):=by omega
   go_wp2_with fail;go_ret;exact ⟨⟨false,rfl⟩,rfl⟩
def dN (l:List Ty):Nat:=match l with
 |[]=>0
 |t :: _=>t.t.cap.length
theorem dimsN_0 {l:List Ty} (h:l.length=0):dN l=0:=by rw [List.length_eq_zero_iff.1 h];rfl
theorem dimsN_1 {l:List Ty} (h:0<l.length):dN l=l[0].t.cap.length:=by
 cases l with
 |nil=>simp at h
 |cons t r=>rfl
theorem dims10_any (l:List Ty) (A:Option Addr) (c:Nat) (w:World) (hc:Cs w A (l.flatMap Ty.cells)) (hn:l.length<=c/\c<=maxLen) (hf:∀ t ∈ l,t.t.cap.length<=t.ca/\t.ca<=maxLen) :
  Calls Tryz.prog 49 #[.slice A l.length c] w fun e w'=>e=.returned (.int .i64 (dN l:Nat))/\w'=w:=by
 unfold maxLen at hn;have HC:=hid hc;have HF:=hid hf;clear hc hf;go_enter Tryz.func49,Tryz.ntmps49;by_cases h0:l.length=0
 ·have h0i:(l.length:Int)=0:=by omega
  have h0':((l.length:Int) == 0)=true:=by rw [h0i];rfl
  have HD:=hid (dimsN_0 h0);clear h0 h0i;go_wp2_with fail;go_ret;exact ⟨by rw [HD.out];rfl,rfl⟩
 ·have h0':((l.length:Int) == 0)=false:=ib (by omega)
  have hlt2:0<l.length:=by omega
  obtain ⟨g1,o1,hA1,hg1,hx⟩:=typ_at HC.out hlt2;subst hA1;have hx0:=hx 0 hlt2 4 _ rfl;rw [Nat.zero_mul,Nat.add_zero] at hx0;have hl:=HF.out _ (List.getElem_mem hlt2);unfold maxLen at hl;clear hx h0;have hd:=dimsN_1 hlt2;generalize l[0]=v at *;have HD:=hid hd;clear hd;go_wp2_with fail;go_ret;exact ⟨by rw [HD.out];rfl,rfl⟩
def sZ (s:St):Bool:=s.place == -1 && s.opn == 0 && s.cls == 0 && s.serv == 0
def sB (s:St):Bool:=decide (s.place<0) || decide (s.opn<0) || decide (s.cls<s.opn) || decide (4096<s.cls) || decide (s.serv<0) || decide (4096<s.serv)
theorem stopOK_z {s:St} (h:sZ s=true):SK s:=⟨Or.inl (by unfold sZ at h;simp only [Bool.and_eq_true,beq_iff_eq] at h;omega)⟩
theorem stopOK_b {s:St} (h:sB s=false):SK s:=⟨Or.inr (by unfold sB at h;simp only [Bool.or_eq_false_iff,decide_eq_false_iff_not] at h;omega)⟩
theorem C4 {w:World} {g:Nat} {a b c d:Value} {e:TypeId} {z:Nat × Nat} (h:w.heap[g]? = some (.cells #[a,b,c,d] e z)):w.cell? ⟨g,0,none⟩=some a/\w.cell? ⟨g,1,none⟩=some b/\w.cell? ⟨g,2,none⟩=some c/\w.cell? ⟨g,3,none⟩=some d:=⟨by simp [World.cell?,h],by simp [World.cell?,h],by simp [World.cell?,h],by simp [World.cell?,h]⟩
theorem C0 (s:St) (w:World) (hf:StopF s) :
  Calls Tryz.prog 147 #[.agg #[.int .i64 s.place,.int .i64 s.opn,.int .i64 s.cls,.int .i64 s.serv]] w fun e w'=>(∃ n:Int,e=.returned (.int .i64 n)/\(n=0->SK s))/\Below w.heap.size w w':=by
 go_enter Tryz.func147,Tryz.ntmps147;obtain ⟨n4,p4⟩:=Na w (.cells #[.int .i64 s.place,.int .i64 s.opn,.int .i64 s.cls,.int .i64 s.serv] 134);obtain ⟨c0,c1,c2,c3⟩:=C4 p4;have HN:=hid n4;clear n4 p4;go_upto_region 1 with fail;generalize w.alloc (.cells #[.int .i64 s.place,.int .i64 s.opn,.int .i64 s.cls,.int .i64 s.serv] 134)=w1 at *;go_cut [20] (fun v wx=>v=.bool (sZ s)/\wx=w1)
 case first =>
  by_cases h0:s.place = -1
  ·have e0:=iB h0
   by_cases h1:s.opn=0
   ·have e1:=iB h1
    by_cases h2:s.cls=0
    ·have e2:=iB h2
     by_cases h3:s.serv=0
     ·have e3:=iB h3
      have HE:=hid (show sZ s=true by unfold sZ;rw [h0,h1,h2,h3];rfl);clear h0 h1 h2 h3;go_wp2_with fail;go_meet;exact ⟨by rw [HE.out],rfl⟩
     ·have e3:=ib h3
      have HE:=hid (show sZ s=false by unfold sZ;rw [e3];simp);clear h0 h1 h2 h3;go_wp2_with fail;go_meet;exact ⟨by rw [HE.out],rfl⟩
    ·have e2:=ib h2
     have HE:=hid (show sZ s=false by unfold sZ;rw [e2];simp);clear h0 h1 h2;go_wp2_with fail;go_meet;exact ⟨by rw [HE.out],rfl⟩
   ·have e1:=ib h1
    have HE:=hid (show sZ s=false by unfold sZ;rw [e1];simp);clear h0 h1;go_wp2_with fail;go_meet;exact ⟨by rw [HE.out],rfl⟩
  ·have e0:=ib h0
   have HE:=hid (show sZ s=false by unfold sZ;rw [e0];simp);clear h0;go_wp2_with fail;go_meet;exact ⟨by rw [HE.out],rfl⟩
 case rest =>
  obtain ⟨rfl,hw⟩:=hcut;obtain rfl:=hw.symm
  cases hz:sZ s with
  |true =>
   have HZ:=hid hz;clear hz;go_wp2_with fail;go_ret;exact ⟨⟨0,rfl,fun _=>stopOK_z HZ.out⟩,HN.out⟩
  |false =>
   clear hz;go_upto_region 3 with fail;go_cut [50] (fun v wx=>v=.bool (sB s)/\wx=w1)
   case first =>
    by_cases h0:s.place<0
    ·have HE:=hid (show sB s=true by unfold sB;rw [decide_eq_true h0];simp)
     go_wp2_with fail;go_meet;exact ⟨by rw [HE.out],rfl⟩
    ·skip
     by_cases h1:s.opn<0
     ·have HE:=hid (show sB s=true by unfold sB;rw [decide_eq_true h1];simp)
      go_wp2_with fail;go_meet;exact ⟨by rw [HE.out],rfl⟩
     ·skip
      by_cases h2:s.cls<s.opn
      ·have HE:=hid (show sB s=true by unfold sB;rw [decide_eq_true h2];simp)
       go_wp2_with fail;go_meet;exact ⟨by rw [HE.out],rfl⟩
      ·skip
       by_cases h3:4096<s.cls
       ·have HE:=hid (show sB s=true by unfold sB;rw [decide_eq_true h3];simp)
        go_wp2_with fail;go_meet;exact ⟨by rw [HE.out],rfl⟩
       ·skip
        by_cases h4:s.serv<0
        ·have HE:=hid (show sB s=true by unfold sB;rw [decide_eq_true h4];simp)
         go_wp2_with fail;go_meet;exact ⟨by rw [HE.out],rfl⟩
        ·skip
         by_cases h5:4096<s.serv
         ·have HE:=hid (show sB s=true by unfold sB;rw [decide_eq_true h5];simp)
          go_wp2_with fail;go_meet;exact ⟨by rw [HE.out],rfl⟩
         ·skip
          have HE:=hid (show sB s=false by unfold sB;rw [decide_eq_false h0,decide_eq_false h1,decide_eq_false h2,decide_eq_false h3,decide_eq_false h4,decide_eq_false h5];rfl);go_wp2_with fail;go_meet;exact ⟨by rw [HE.out],rfl⟩
   case rest =>
    obtain ⟨rfl,hw⟩:=hcut;obtain rfl:=hw.symm
    cases hz:sB s with
    |true =>
     clear hz;go_wp2_with fail;go_ret;exact ⟨⟨2,rfl,fun h=>absurd h (by decide)⟩,HN.out⟩
    |false =>
     have HZ:=hid hz;clear hz;go_wp2_with fail;go_ret;exact ⟨⟨0,rfl,fun _=>stopOK_b HZ.out⟩,HN.out⟩
end Go.Proofs.YtjcekdiocliddaaGreatDoor

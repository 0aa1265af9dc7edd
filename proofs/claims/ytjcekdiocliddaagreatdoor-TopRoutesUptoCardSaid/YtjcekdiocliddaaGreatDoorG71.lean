/- travel: within, Check and right of a good function, arrive, Arrive. -/
import Derived.Test.YtjcekdiocliddaaGreatDoorG66
import Derived.Test.YtjcekdiocliddaaGreatDoorG10
import Derived.Test.YtjcekdiocliddaaGreatDoorG69
import Derived.Test.YtjcekdiocliddaaGreatDoorG70
import Derived.BigQuiet
import Derived.StillTailTactics
import Derived.Deep.RegionHeld3
namespace Go.Proofs.YtjcekdiocliddaaGreatDoor
open Lib (hid)
open Go.RowKit Num Txt Pf Tk
set_option maxHeartbeats 32000000
set_option maxRecDepth 100000
set_option linter.unusedVariables false
attribute [local go_sem] BS Bg Bt Bm Be Ba
theorem Ta (n lo hi:Int) (w:World):Calls Tryz.prog 53 #[.int .i64 n,.int .i64 lo,.int .i64 hi] w fun e w'=>e=.returned (.bool (IR n lo hi))/\w'=w:=by
 by_cases h1:lo<=n
 ·by_cases h2:n<=hi
  ·have HR:=hid (iN h1 h2)
   go_enter Tryz.func53,Tryz.ntmps53;go_wp2_with fail;go_ret;exact ⟨rb HR.out.symm,rfl⟩
  ·have HR:=hid (inR_f2 (lo:=lo) h2)
   go_enter Tryz.func53,Tryz.ntmps53;go_wp2_with fail;go_ret;exact ⟨rb HR.out.symm,rfl⟩
 ·have HR:=hid (inR_f1 (hi:=hi) h1)
  go_enter Tryz.func53,Tryz.ntmps53;go_wp2_with fail;go_ret;exact ⟨rb HR.out.symm,rfl⟩
theorem mF {ps:List (Int × Int)} (h:PO ps) {i:Nat} (hi:i<ps.length):(0<=ps[i].1/\ps[i].1<=4096)/\ps[i].1<=ps[i].2/\ps[i].2<=ps[i].1+4096:=by
 have:=h.each _ (List.getElem_mem hi);omega
theorem tcheck_ok (ps:List (Int × Int)) (A:Option Addr) (c:Nat) (w:World) (hc:Cs w A (ps.flatMap PC)) (hn:ps.length<=c/\c<=maxLen) (hok:PO ps) (ht:Tb w) :
  Calls Tryz.prog 110 #[.slice A ps.length c] w fun e w'=>e=.returned (.slice none 0 0)/\Below w.heap.size w w':=by
 unfold maxLen at hn;have HC:=hid hc;have HK:=hid hok;have HT:=hid ht;have hp0:=hok.pos;have hp16:=hok.len;clear hc hok ht;have e0:((ps.length:Int) == 0)=false:=by rw [beq_eq_false_iff_ne];omega
 have e1:¬ (16:Int)<(ps.length:Int):=by omega
 go_enter Tryz.func110,Tryz.ntmps110;(try simp only [Bm]);go_wp2_with fail;go_loopw [3,4,6,21] (fun o _ _ j wr=>∃ k:Nat,k<=ps.length/\j=.int .i64 k/\o=.slice none 0 0/\Below w.heap.size w wr) (fun _ _ _ j _=>ps.length - (intOf j).toNat)
 case atStart=>exact ⟨0,Nat.zero_le _,rfl,rfl,Below.refl _ _⟩
 case round =>
  obtain ⟨k,hk,rfl,rfl,hbel⟩:=hrel;have HBL:=hid hbel;clear hbel;by_cases hlt:k<ps.length
  ·have hlt1:(k:Int)<(ps.length:Int):=by omega
   obtain ⟨g1,o1,hA1,hg1,hx1⟩:=eP pC (by decide) HC.out (by omega);subst hA1;have hx3:=hx1 k hlt;have c0:=(HBL.out.cell (p:=⟨g1,o1+k*2,none⟩) hg1).trans (hx3 0 (.int .i64 ps[k].1) rfl);have c1':=(HBL.out.cell (p:=⟨g1,o1+k*2+1,none⟩) hg1).trans (hx3 1 (.int .i64 ps[k].2) rfl);obtain ⟨n4,p4⟩:=Na wr (.cells #[.int .i64 ps[k].1,.int .i64 ps[k].2] 74);have hfit:=mF HK.out hlt
   have HB4:=hid (bL HBL.out n4);have HX:=hid (fun (wn:World) (hb:Below w.heap.size w wn) (i:Nat) (hi:i<ps.length)=>(⟨(hb.cell (p:=⟨g1,o1+i*2,none⟩) hg1).trans (hx1 i hi 0 (.int .i64 ps[i].1) rfl),(hb.cell (p:=⟨g1,o1+i*2+1,none⟩) hg1).trans (hx1 i hi 1 (.int .i64 ps[i].2) rfl)⟩:wn.cell? ⟨g1,o1+i*2,none⟩=some (.int .i64 ps[i].1)/\wn.cell? ⟨g1,o1+i*2+1,none⟩=some (.int .i64 ps[i].2)))
   have HPK:=hid (show ∃ p,p=ps[k] from ⟨_,rfl⟩);clear hx1 hx3 n4;go_upto_region 7 with fail;clear c0 c1';obtain ⟨p,hp⟩:=HPK.out;have hpp:ps[k]=p:=hp.symm;rw [hpp] at p4 hfit HB4;simp only [hpp];generalize wr.alloc (.cells #[.int .i64 p.1,.int .i64 p.2] 74)=w4 at *;have HPP:=hid hpp;clear hpp hp HPK;obtain ⟨⟨f1,f2⟩,f3,f4⟩:=hfit
   have HDC:=hid (itoaI_any (k:Int) w4 (by unfold fits;omega) (HT.out.below (HB4.out.mono (Nat.le_refl _))));go_wp2_with fail;refine HDC.out.mono ?_;rintro e w5 ⟨rfl,hb5⟩;have HB5:=hid (bL HB4.out hb5);obtain ⟨c0,c1'⟩:=C2 (rK p4 hb5);have HC0:=hid c0;have HC1:=hid c1';have d1:¬ p.2<p.1:=by omega
   have d2:¬ p.1+4096<p.2:=by omega
   clear hb5;go_wp2_with fail;refine (Ta p.1 0 4096 w5).mono ?_;rintro e w6 ⟨rfl,hw6⟩;obtain rfl:=hw6.symm;rw [iN f1 f2];go_upto_region 10 with fail;by_cases h0:0<k
   ·have h0i:(0:Int)<(k:Int):=by omega
    have hkm:(k:Int) - 1=((k - 1:Nat):Int):=by omega
    have hn1:=HK.out.next (k - 1) (by omega);have hkk:k - 1+1=k:=by omega
    simp only [hkk] at hn1;rw [HPP.out] at hn1;obtain ⟨d0,d1⟩:=HX.out w5 HB5.out (k - 1) (by omega);have hi1:k - 1<ps.length:=by omega
    obtain ⟨q,hq⟩:∃ q,ps[k - 1]'(by omega)=q:=⟨_,rfl⟩
    rw [hq] at d0 d1 hn1;have b1:decide (p.1<=q.1)=false:=decide_eq_false (by omega);have b2:decide (p.2<q.2)=false:=decide_eq_false (by omega);clear hq hn1 hkk;go_quiet (fail)
    have hb7:=below_drewN HB5.out nq;go_wp2_with fail;go_roundw
    case rel=>exact ⟨k+1,by omega,by go_num,rfl,hb7⟩
    case measure=>simp [intOf];omega
   ·have h0i:¬ (0:Int)<(k:Int):=by omega
    have hd0:decide ((0:Int)<(k:Int))=false:=decide_eq_false h0i;go_quiet (fail)
    have hb7:=below_drewN HB5.out nq;go_wp2_with fail;go_roundw
    case rel=>exact ⟨k+1,by omega,by go_num,rfl,hb7⟩
    case measure=>simp [intOf];omega
  ·have hlt1:¬ (k:Int)<(ps.length:Int):=by omega
   go_wp2_with fail;go_ret;exact ⟨rfl,HBL.out⟩
theorem tright_ok (ps:List (Int × Int)) (A:Option Addr) (c:Nat) (w:World) (hc:Cs w A (ps.flatMap PC)) (hn:ps.length<=c/\c<=maxLen) (hok:PO ps) (ht:Tb w) :
  Calls Tryz.prog 54 #[.slice A ps.length c] w fun e w'=>e=.returned (.bool true)/\Below w.heap.size w w':=by
 have H:=hid (tcheck_ok ps A c w hc hn hok ht);clear hc hok ht hn;go_enter Tryz.func54,Tryz.ntmps54;go_wp2_with fail;refine H.out.mono ?_;rintro e w1 ⟨rfl,hb⟩;go_wp2_with fail;go_ret;exact ⟨rfl,hb⟩
theorem tcmp_any (p:Int × Int) (t:Int) (w:World) (hp:0<=p.1/\p.1<=4096) (ht:0<=t/\t<=1073741824) :
  Calls Tryz.prog 112 #[.agg #[.int .i64 p.1,.int .i64 p.2],.int .i64 t] w fun e w'=>e=.returned (.int .i64 (p.1 - t))/\Below w.heap.size w w':=by
 obtain ⟨n4,p4⟩:=Na w (.cells #[.int .i64 p.1,.int .i64 p.2] 74);have HN:=hid n4;clear n4;go_enter Tryz.func112,Tryz.ntmps112;go_upto_region 1 with fail;generalize w.alloc (.cells #[.int .i64 p.1,.int .i64 p.2] 74)=w4 at *;obtain ⟨c0,c1⟩:=C2 p4;go_wp2_with fail;go_ret;exact ⟨rfl,HN.out⟩
theorem pts_mono {l:List (Int × Int)} (h:PO l) {i j:Nat} (hi:i<l.length) (hj:j<l.length) (hij:i<=j):l[i].1<=l[j].1:=by
 rcases Nat.lt_or_eq_of_le hij with h1 | h1
 ·have:=pts_lt h i j hi hj h1;omega
 ·subst h1;exact Int.le_refl _
theorem pts_prev {l:List (Int × Int)} (h:PO l) {i:Nat} (h0:0<i) (hi:i<l.length):(l[i - 1]'(by omega)).1<l[i].1/\(l[i - 1]'(by omega)).2<=l[i].2:=by
 obtain ⟨j,rfl⟩:∃ j,i=j+1:=⟨i - 1,by omega⟩
 exact h.next j hi
theorem two_new (w:World) (a b:Obj):(((w.alloc a).alloc b).drew).heap[w.heap.size]? = some a/\(((w.alloc a).alloc b).drew).heap[w.heap.size+1]? = some b/\Below w.heap.size w (((w.alloc a).alloc b).drew):=by
 obtain ⟨n1,p1⟩:=Na w a;obtain ⟨n2,p2⟩:=Na (w.alloc a) b;have hs:(w.alloc a).heap.size=w.heap.size+1:=by simp
 rw [hs] at p2;have k1:=rK p1 n2;exact ⟨k1,p2,(bL n1 n2).drew⟩
def BsE (ps:List (Int × Int)) (t:Int) (w:World) (e:Ending) (w':World):Prop:=(∃ f:Bool,e=.returned (.tuple #[.int .i64 (pN ps t),.bool f])/\(f=true↔∃ h:pN ps t<ps.length,ps[pN ps t].1=t))/\Below w.heap.size w w'
theorem BsE.mk {ps:List (Int × Int)} {t:Int} {w w':World} {i:Nat} (hi:pN ps t=i) (f:Bool) (hf:f=true↔∃ h:i<ps.length,ps[i].1=t) (hb:Below w.heap.size w w'):BsE ps t w (.returned (.tuple #[.int .i64 i,.bool f])) w':=by
 subst hi;exact ⟨⟨f,rfl,hf⟩,hb⟩
theorem bsearch_any (ps:List (Int × Int)) (A:Option Addr) (c:Nat) (t:Int) (w:World) (hc:Cs w A (ps.flatMap PC)) (hn:ps.length<=c/\c<=maxLen) (hok:PO ps) (ht:0<=t/\t<=1073741824) :
  Calls Tryz.prog 111 #[.slice A ps.length c,.int .i64 t,.func (Fn.func 112) #[] #[]] w (BsE ps t w):=by
 unfold maxLen at hn;have HC:=hid hc;have HK:=hid hok;have hp0:=hok.pos;have hp16:=hok.len;clear hc hok;obtain ⟨g1,o1,hA1,hg1,hx1⟩:=eP pC (by decide) HC.out (by omega);subst hA1
 have HX:=hid (fun (wn:World) (hb:Below w.heap.size w wn) (i:Nat) (hi:i<ps.length)=>(⟨(hb.cell (p:=⟨g1,o1+i*2,none⟩) hg1).trans (hx1 i hi 0 (.int .i64 ps[i].1) rfl),(hb.cell (p:=⟨g1,o1+i*2+1,none⟩) hg1).trans (hx1 i hi 1 (.int .i64 ps[i].2) rfl)⟩:wn.cell? ⟨g1,o1+i*2,none⟩=some (.int .i64 ps[i].1)/\wn.cell? ⟨g1,o1+i*2+1,none⟩=some (.int .i64 ps[i].2)));clear hx1
 go_enter Tryz.func111,Tryz.ntmps111;go_wp2_with fail;go_loopw [9,10,11] (fun i j _ wr=>∃ a b:Nat,i=.int .i64 a/\j=.int .i64 b/\a<=b/\b<=ps.length/\(∀ m (h:m<ps.length),m<a->ps[m].1<t)/\(∀ m (h:m<ps.length),b<=m->t<=ps[m].1)/\Below w.heap.size w wr) (fun i j _ _=>(intOf j).toNat - (intOf i).toNat)
 case atStart=>exact ⟨0,ps.length,rfl,rfl,Nat.zero_le _,Nat.le_refl _,fun m h h1=>by omega,fun m h h1=>by omega,Below.refl _ _⟩
 case round =>
  obtain ⟨a,b,rfl,rfl,hab,hbl,hlo,hhi,hbel⟩:=hrel;have HLO:=hid hlo;have HHI:=hid hhi;have HBL:=hid hbel;clear hlo hhi hbel;by_cases hlt:a<b
  ·have hlt1:(a:Int)<(b:Int):=by omega
   obtain ⟨m,hm⟩:∃ m,m=(a+b) / 2:=⟨_,rfl⟩
   have hma:a<=m/\m<b:=by omega
   have hml:m<ps.length:=by omega
   have hml1:(m:Int)<(ps.length:Int):=by omega
   obtain ⟨d0,d1⟩:=HX.out wr HBL.out m hml;have HSH:=hid (show ((a:Int)+(b:Int)) / 2=(m:Int) by omega);have hfit:=mF HK.out hml;have HCM:=hid (tcmp_any ps[m] t wr hfit.1 ht);have HLT:=hid (fun q (hq:q<ps.length) (h:q<=m)=>pts_mono HK.out hq hml h);have HGT:=hid (fun q (hq:q<ps.length) (h:m<=q)=>pts_mono HK.out hml hq h);obtain ⟨⟨f1,f2⟩,_,_⟩:=hfit;generalize ps[m]=p at *
   clear hm;go_upto_region 5 with fail;rw [HSH.out];go_wp2_with fail;refine HCM.out.mono ?_;rintro e w2 ⟨rfl,hb2⟩;have HB2:=hid (bL HBL.out hb2);clear hb2 HSH;by_cases hc:p.1 - t<0
   ·go_wp2_with fail
    go_roundw
    case rel=>exact ⟨m+1,b,by go_num,rfl,by omega,hbl,fun q hq h=>by have:=HLT.out q hq (by omega);omega,HHI.out,HB2.out⟩
    case measure=>simp [intOf];omega
   ·go_wp2_with fail
    go_roundw
    case rel=>exact ⟨a,m,rfl,rfl,by omega,by omega,HLO.out,fun q hq h=>by have:=HGT.out q hq h;omega,HB2.out⟩
    case measure=>simp [intOf];omega
  ·have hlt1:¬ (a:Int)<(b:Int):=by omega
   obtain rfl:a=b:=by omega
   have HPN:=hid (show pN ps t=a from ptsN_of hbl (fun j h hj=>HLO.out j h hj) (fun h=>HHI.out a h (Nat.le_refl _)));by_cases hal:a<ps.length
   ·have hal1:(a:Int)<(ps.length:Int):=by omega
    obtain ⟨d0,d1⟩:=HX.out wr HBL.out a hal;have hfit:=mF HK.out hal;have HCM:=hid (tcmp_any ps[a] t wr hfit.1 ht);have HPA:=hid (show ∃ p,ps[a]=p from ⟨_,rfl⟩);obtain ⟨p,hp⟩:=HPA.out;have HP:=hid hp;rw [hp] at d0 d1 HCM hfit;obtain ⟨⟨f1,f2⟩,_,_⟩:=hfit;clear hp HPA;go_wp2_with fail;refine HCM.out.mono ?_;rintro e w2 ⟨rfl,hb2⟩;have HB2:=hid (bL HBL.out hb2);clear hb2
    by_cases hc:p.1=t
    ·have hc1:(p.1 - t == 0)=true:=by rw [beq_iff_eq];omega
     have HC1:=hid hc;clear hc;go_wp2_with fail;go_ret2;exact BsE.mk HPN.out true ⟨fun _=>⟨hal,by rw [HP.out];exact HC1.out⟩,fun _=>rfl⟩ HB2.out
    ·have hc1:(p.1 - t == 0)=false:=by rw [beq_eq_false_iff_ne];omega
     have HC1:=hid hc;clear hc;go_wp2_with fail;go_ret2;exact BsE.mk HPN.out false ⟨fun h=>Bool.noConfusion h,fun h=>by obtain ⟨h1,h2⟩:=h;rw [HP.out] at h2;exact absurd h2 HC1.out⟩ HB2.out
   ·have hal1:¬ (a:Int)<(ps.length:Int):=by omega
    go_wp2_with fail;go_ret2;exact BsE.mk HPN.out false ⟨fun h=>Bool.noConfusion h,fun h=>by obtain ⟨h1,h2⟩:=h;omega⟩ HBL.out
theorem tarrive_any (ps:List (Int × Int)) (A:Option Addr) (c:Nat) (t:Int) (w:World) (hc:Cs w A (ps.flatMap PC)) (hn:ps.length<=c/\c<=maxLen) (hok:PO ps) (ht:0<=t/\t<=1073741824) :
  Calls Tryz.prog 55 #[.slice A ps.length c,.int .i64 t] w fun e w'=>e=.returned (.int .i64 (ar ps t))/\Below w.heap.size w w':=by
 have HBS:=hid (bsearch_any ps A c t w hc hn hok ht);unfold maxLen at hn;have HC:=hid hc;have HK:=hid hok;have hp0:=hok.pos;have hp16:=hok.len;clear hc hok;obtain ⟨g1,o1,hA1,hg1,hx1⟩:=eP pC (by decide) HC.out (by omega);subst hA1
 have HX:=hid (fun (wn:World) (hb:Below w.heap.size w wn) (i:Nat) (hi:i<ps.length)=>(⟨(hb.cell (p:=⟨g1,o1+i*2,none⟩) hg1).trans (hx1 i hi 0 (.int .i64 ps[i].1) rfl),(hb.cell (p:=⟨g1,o1+i*2+1,none⟩) hg1).trans (hx1 i hi 1 (.int .i64 ps[i].2) rfl)⟩:wn.cell? ⟨g1,o1+i*2,none⟩=some (.int .i64 ps[i].1)/\wn.cell? ⟨g1,o1+i*2+1,none⟩=some (.int .i64 ps[i].2)));clear hx1;unfold BsE at HBS
 have hle:=Pe ps t;have HSP:=hid (Pc ps t);have HAR:=hid (show ar ps t=_ from by unfold ar;rfl);simp only at HAR;generalize pN ps t=i at *;generalize ar ps t=res at *;go_enter Tryz.func55,Tryz.ntmps55;go_wp2_with fail;refine HBS.out.mono ?_;rintro e w1 ⟨⟨f,rfl,hf⟩,hb1⟩;have HB1:=hid hb1;clear hb1 HBS
 cases f with
 |true =>
  obtain ⟨hil,hit⟩:=hf.1 rfl;have hil1:(i:Int)<(ps.length:Int):=by omega
  obtain ⟨d0,d1⟩:=HX.out w1 HB1.out i hil;have HR:=hid (show res=ps[i].2 by rw [HAR.out,List.getElem?_eq_getElem hil];simp only;rw [if_pos hit]);clear hf hit HAR;generalize ps[i]=q at *;go_wp2_with fail;go_ret;exact ⟨ri HR.out.symm,HB1.out⟩
 |false =>
  have hnf:¬ ∃ h:i<ps.length,ps[i].1=t:=fun h=>by have:=hf.2 h;cases this
  by_cases h0:i=0
  ·subst h0
   obtain ⟨d0,d1⟩:=HX.out w1 HB1.out 0 hp0;have hfit:=mF HK.out hp0
   have HR:=hid (show res=t+ps[0].2 - ps[0].1 by
    rw [HAR.out,List.getElem?_eq_getElem hp0];show (if ps[0].1=t then ps[0].2 else if (0:Nat)=0 then t+ps[0].2 - ps[0].1 else _)=_
    rw [if_neg (fun e=>hnf ⟨hp0,e⟩),if_pos rfl])
   simp only [Nat.zero_mul,Nat.add_zero] at d0 d1;clear hf hnf HAR;obtain ⟨⟨f1,f2⟩,f3,f4⟩:=hfit;generalize ps[0]=q at *;go_upto_region 5 with fail;go_quiet (fail)
   have hb7:=below_drewN HB1.out nq;go_wp2_with fail;go_ret;exact ⟨ri HR.out.symm,hb7⟩
  ·have h0i:((i:Int) == 0)=false:=by rw [beq_eq_false_iff_ne];omega
   have him:(i:Int) - 1=((i - 1:Nat):Int):=by omega
   have hi1:i - 1<ps.length:=by omega
   obtain ⟨d0,d1⟩:=HX.out w1 HB1.out (i - 1) hi1;have hfit:=mF HK.out hi1;by_cases hil:i<ps.length
   ·have hil1:(i:Int)<(ps.length:Int):=by omega
    have hile:((i:Int) == (ps.length:Int))=false:=by rw [beq_eq_false_iff_ne];omega
    obtain ⟨x0,x1⟩:=HX.out w1 HB1.out i hil;have hfit2:=mF HK.out hil;obtain ⟨hlt2,hm2⟩:=pts_prev HK.out (by omega) hil;have ht1:=HSP.out.1 (i - 1) hi1 (by omega);have ht2:=HSP.out.2 hil
    have HR:=hid (show res=ps[i - 1].2+((t - ps[i - 1].1)*(ps[i].2 - ps[i - 1].2)+(ps[i].1 - ps[i - 1].1) - 1).tdiv (ps[i].1 - ps[i - 1].1) by
     rw [HAR.out,List.getElem?_eq_getElem hil];show (if ps[i].1=t then ps[i].2 else if i=0 then _ else _)=_
     rw [if_neg (fun e=>hnf ⟨hil,e⟩),if_neg h0,List.getElem?_eq_getElem hi1])
    clear hf hnf HAR HSP;obtain ⟨⟨f1,f2⟩,f3,f4⟩:=hfit;obtain ⟨⟨f5,f6⟩,f7,f8⟩:=hfit2;generalize ps[i - 1]=p at *;generalize ps[i]=q at *;have hpr1:0<=(t - p.1)*(q.2 - p.2):=Int.mul_nonneg (by omega) (by omega)
    have hpr2:(t - p.1)*(q.2 - p.2)<=4096*8192:=Int.le_trans (Int.mul_le_mul_of_nonneg_right (show t - p.1<=4096 by omega) (by omega)) (Int.mul_le_mul_of_nonneg_left (show q.2 - p.2<=8192 by omega) (by omega));have hq0:(q.1 - p.1 == 0)=false:=by rw [beq_eq_false_iff_ne];omega
    go_upto_region 8 with fail;go_cut [7,8] (fun x y wx=>∃ ga gb:Nat,x=.pointer (some ⟨ga,0,none⟩)/\y=.pointer (some ⟨gb,0,none⟩)/\wx.heap[ga]? = some (.cells #[.int .i64 p.1,.int .i64 p.2] 74)/\wx.heap[gb]? = some (.cells #[.int .i64 q.1,.int .i64 q.2] 74)/\Below w.heap.size w wx)
    case first =>
     have hg2:g1<w1.heap.size:=Nat.lt_of_lt_of_le hg1 HB1.out.size;go_region
     all_goals (go_wp2_with fail;go_meet)
     ·obtain ⟨k1,k2,k3⟩:=two_new w1 (.cells #[.int .i64 p.1,.int .i64 p.2] 74) (.cells #[.int .i64 q.1,.int .i64 q.2] 74)
      exact ⟨_,_,rfl,rfl,k1,k2,bL HB1.out k3⟩
     ·obtain ⟨k1,k2,k3⟩:=two_new w1 (.cells #[.int .i64 q.1,.int .i64 q.2] 74) (.cells #[.int .i64 p.1,.int .i64 p.2] 74)
      exact ⟨_,_,rfl,rfl,k2,k1,bL HB1.out k3⟩
    case rest =>
     obtain ⟨ga,gb,rfl,rfl,h1,h2,hbc⟩:=hcut;have HBC:=hid hbc;clear hbc d0 d1 x0 x1;obtain ⟨a0,a1⟩:=C2 h1;obtain ⟨b0,b1⟩:=C2 h2;clear h1 h2
     have htd:=Ay (a:=(t - p.1)*(q.2 - p.2)+(q.1 - p.1) - 1) (d:=q.2 - p.2) (show 0<q.1 - p.1 by omega) (by omega) (by
      have:(t - p.1)*(q.2 - p.2)<=(q.1 - p.1)*(q.2 - p.2):=Int.mul_le_mul_of_nonneg_right (by omega) (by omega);omega)
     go_upto_region 10 with fail;go_quiet (fail)
     have hb7:=below_drewN HBC.out nq;go_wp2_with fail;go_ret;exact ⟨ri HR.out.symm,hb7⟩
   ·have hie:i=ps.length:=by omega
    have HR:=hid (show res=t+ps[i - 1].2 - ps[i - 1].1 by
     rw [HAR.out,List.getElem?_eq_none (by omega)];show (match ps[i - 1]? with | some p=>t+p.2 - p.1 | none=>0)=_
     rw [List.getElem?_eq_getElem hi1])
    have hile:((i:Int) == (ps.length:Int))=true:=by rw [beq_iff_eq];omega
    clear hf hnf HAR HSP hie;obtain ⟨⟨f1,f2⟩,f3,f4⟩:=hfit;generalize ps[i - 1]=p at *;go_upto_region 7 with fail;go_quiet (fail)
    have hb7:=below_drewN HB1.out nq;go_wp2_with fail;go_ret;exact ⟨ri HR.out.symm,hb7⟩
theorem Dj (ps:List (Int × Int)) (A:Option Addr) (c:Nat) (t:Int) (w:World) (hc:Cs w A (ps.flatMap PC)) (hn:ps.length<=c/\c<=maxLen) (hok:PO ps) (ht:0<=t/\t<=1073741824) (hT:Tb w) :
  Calls Tryz.prog 18 #[.slice A ps.length c,.int .i64 t] w fun e w'=>e=.returned (.int .i64 (ar ps t))/\Below w.heap.size w w':=by
 have HRI:=hid (tright_ok ps A c w hc hn hok hT);have HAR:=hid (fun w' (hb:Below w.heap.size w w')=>tarrive_any ps A c t w' (hc.below hb) hn hok ht);clear hc hok hn hT;go_enter Tryz.func18,Tryz.ntmps18;go_wp2_with fail;refine (Ta t 0 1073741824 w).mono ?_;rintro e w6 ⟨rfl,hw6⟩;obtain rfl:=hw6.symm;rw [iN ht.1 ht.2];go_wp2_with fail;refine HRI.out.mono ?_;rintro e w1 ⟨rfl,hb1⟩
 have HA1:=hid (HAR.out w1 hb1);have HB1:=hid hb1;clear hb1;go_wp2_with fail;refine HA1.out.mono ?_;rintro e w2 ⟨rfl,hb2⟩;have hb3:=bL HB1.out hb2;go_wp2_with fail;go_ret;exact ⟨rfl,hb3⟩
abbrev netA (m:IM):Value:=.agg #[.slice m.pA m.places.length m.pc,.slice m.aA m.arcs.length m.ac]
abbrev arcA (a:AM):Value:=.agg #[.int .i64 a.a.frm,.int .i64 a.a.tgt,.int .i64 a.a.prof,.int .i64 a.a.miles,.slice a.A a.a.trav.length a.ca,.slice a.C a.a.slow.length a.cc]
theorem isPlace_tt {m:IM} {i:Int} (h1:0<=i) (h2:i<(m.places.length:Int)):iP m.v i=true:=by
 unfold iP;rw [decide_eq_true h1,decide_eq_true (show i<(m.v.places.length:Int) from h2)];rfl
theorem isPlace_f1 {m:IM} {i:Int} (h1:¬ 0<=i):iP m.v i=false:=by unfold iP;rw [decide_eq_false h1];rfl
theorem isPlace_f2 {m:IM} {i:Int} (h2:¬ i<(m.places.length:Int)):iP m.v i=false:=by
 unfold iP;rw [decide_eq_false (show ¬ i<(m.v.places.length:Int) from h2)];simp
theorem nplace_any (m:IM) (i:Int) (w:World) (hl:m.places.length<=6):Calls Tryz.prog 95 #[netA m,.int .i64 i] w fun e w'=>e=.returned (.bool (iP m.v i))/\Below w.heap.size w w':=by
 obtain ⟨n4,p4⟩:=Na w (.cells #[.slice m.pA m.places.length m.pc,.slice m.aA m.arcs.length m.ac] 25);have HN:=hid n4;clear n4;obtain ⟨c0,c1⟩:=C2 p4;clear p4;by_cases h1:0<=i
 ·by_cases h2:i<(m.places.length:Int)
  ·have HR:=hid (isPlace_tt h1 h2)
   go_enter Tryz.func95,Tryz.ntmps95;go_wp2_with fail;go_ret;exact ⟨rb HR.out.symm,HN.out⟩
  ·have HR:=hid (isPlace_f2 h2)
   go_enter Tryz.func95,Tryz.ntmps95;go_wp2_with fail;go_ret;exact ⟨rb HR.out.symm,HN.out⟩
 ·have HR:=hid (isPlace_f1 (m:=m) h1)
  go_enter Tryz.func95,Tryz.ntmps95;go_wp2_with fail;go_ret;exact ⟨rb HR.out.symm,HN.out⟩
theorem wayOf_any (a:AM) (w:World):Calls Tryz.prog 139 #[arcA a] w fun e w'=>e=.returned (.agg #[.int .i64 a.a.frm,.int .i64 a.a.tgt,.int .i64 a.a.prof])/\Below w.heap.size w w':=by
 obtain ⟨n4,p4⟩:=Na w (.cells #[.int .i64 a.a.frm,.int .i64 a.a.tgt,.int .i64 a.a.prof,.int .i64 a.a.miles,.slice a.A a.a.trav.length a.ca,.slice a.C a.a.slow.length a.cc] 188)
 obtain ⟨n5,p5⟩:=Na (w.alloc (.cells #[.int .i64 a.a.frm,.int .i64 a.a.tgt,.int .i64 a.a.prof,.int .i64 a.a.miles,.slice a.A a.a.trav.length a.ca,.slice a.C a.a.slow.length a.cc] 188)) (.cells #[.int .i64 a.a.frm,.int .i64 a.a.tgt,.int .i64 a.a.prof] 236)
 have hs:(w.alloc (.cells #[.int .i64 a.a.frm,.int .i64 a.a.tgt,.int .i64 a.a.prof,.int .i64 a.a.miles,.slice a.A a.a.trav.length a.ca,.slice a.C a.a.slow.length a.cc] 188)).heap.size=w.heap.size+1:=by simp
 rw [hs] at p5;have HB:=hid (bL n4 n5);have HP:=hid p5;clear n4 n5 p4 p5 hs;go_enter Tryz.func139,Tryz.ntmps139;go_wp2_with fail;refine bodyPost_ret (Rr rfl (ld_way HP.out) rfl) rfl ?_;exact ⟨rfl,HB.out⟩
def ic (prof frm tgt:Int) (a:AM):Bool:=a.a.frm == frm && a.a.tgt == tgt && a.a.prof == prof
def FE (m:IM) (prof frm tgt:Int) (w:World) (e:Ending) (w':World):Prop :=
 (match m.arcs.find? (ic prof frm tgt) with
 |some a=>e=.returned (.tuple #[arcA a,.bool true])
 |none=>e=.returned (.tuple #[.agg #[.int .i64 0,.int .i64 0,.int .i64 0,.int .i64 0,.slice none 0 0,.slice none 0 0],.bool false]))/\Below w.heap.size w w'
theorem find_at {α:Type} {p:α->Bool}:∀ {l:List α} {k:Nat} (hk:k<l.length),(∀ j (h:j<l.length),j<k->p l[j]=false)->p l[k]=true->l.find? p=some l[k]
 |[],k,hk,_,_=>absurd hk (by simp)
 |a :: l,0,_,_,h=>by rw [List.find?_cons_of_pos (by simpa using h)];rfl
 |a :: l,k+1,hk,hf,h=>by
  rw [List.find?_cons_of_neg (by have:=hf 0 (by simp) (by omega);simpa using this)];exact find_at (by simpa using hk) (fun j hj hjk=>hf (j+1) (by simpa using hj) (by omega)) h
theorem find_no {α:Type} {p:α->Bool} {l:List α} (h:∀ j (h:j<l.length),p l[j]=false):l.find? p=none:=by
 rw [List.find?_eq_none];intro x hx;obtain ⟨j,hj,rfl⟩:=List.getElem_of_mem hx;rw [h j hj];simp
theorem FE.yes {m:IM} {prof frm tgt:Int} {w w':World} {k:Nat} (hk:k<m.arcs.length) (h1:∀ j (h:j<m.arcs.length),j<k->ic prof frm tgt m.arcs[j]=false) (h2:ic prof frm tgt m.arcs[k]=true) (hb:Below w.heap.size w w'):FE m prof frm tgt w (.returned (.tuple #[arcA m.arcs[k],.bool true])) w':=by
 unfold FE;rw [find_at hk h1 h2];exact ⟨rfl,hb⟩
theorem FE.no {m:IM} {prof frm tgt:Int} {w w':World} (h1:∀ j (h:j<m.arcs.length),ic prof frm tgt m.arcs[j]=false) (hb:Below w.heap.size w w'):FE m prof frm tgt w (.returned (.tuple #[.agg #[.int .i64 0,.int .i64 0,.int .i64 0,.int .i64 0,.slice none 0 0,.slice none 0 0],.bool false])) w':=by
 unfold FE;rw [find_no h1];exact ⟨rfl,hb⟩
theorem nfind_any (m:IM) (prof frm tgt:Int) (w:World) (hc:Cs w m.aA (m.arcs.flatMap AM.cells)) (hl:m.arcs.length<=40) (hn:m.arcs.length<=m.ac/\m.ac<=maxLen) :
  Calls Tryz.prog 96 #[netA m,.int .i64 prof,.int .i64 frm,.int .i64 tgt] w (FE m prof frm tgt w):=by
 have HC:=hid hc;unfold maxLen at hn;clear hc;go_enter Tryz.func96,Tryz.ntmps96;(try simp only [Bm]);go_upto_region 3 with fail;obtain ⟨k1,k2,k3,k4⟩:=Av w (.cells #[.slice m.pA m.places.length m.pc,.slice m.aA m.arcs.length m.ac] 25) (.cells #[.int .i64 0,.int .i64 0,.int .i64 0,.int .i64 0,.slice none 0 0,.slice none 0 0] 188) (.cells #[.int .i64 frm,.int .i64 tgt,.int .i64 prof] 236)
 generalize ((w.alloc (.cells #[.slice m.pA m.places.length m.pc,.slice m.aA m.arcs.length m.ac] 25)).alloc (.cells #[.int .i64 0,.int .i64 0,.int .i64 0,.int .i64 0,.slice none 0 0,.slice none 0 0] 188)).alloc (.cells #[.int .i64 frm,.int .i64 tgt,.int .i64 prof] 236)=w3 at *;obtain ⟨ga,hga⟩:∃ ga,ga=w.heap.size+1:=⟨_,rfl⟩
 obtain ⟨gb,hgb⟩:∃ gb,gb=w.heap.size+1+1:=⟨_,rfl⟩
 rw [<- hgb] at k3;rw [<- hgb,<- hga];rw [<- hga] at k2;have HGA:=hid (show w.heap.size<=ga/\w.heap.size<=gb/\ga≠gb by omega);have HK2:=hid k2;have HK3:=hid k3;have HK4:=hid k4;clear k1 k2 k3 k4 hga hgb
 go_loopw [9,20] (fun _ j wr=>∃ k:Nat,k<=m.arcs.length/\j=.int .i64 k/\(∀ j (h:j<m.arcs.length),j<k->ic prof frm tgt m.arcs[j]=false)/\wr.heap[ga]? = some (.cells #[.int .i64 0,.int .i64 0,.int .i64 0,.int .i64 0,.slice none 0 0,.slice none 0 0] 188)/\wr.heap[gb]? = some (.cells #[.int .i64 frm,.int .i64 tgt,.int .i64 prof] 236)/\Below w.heap.size w wr) (fun _ j _=>m.arcs.length - (intOf j).toNat)
 case atStart=>exact ⟨0,Nat.zero_le _,rfl,fun j h h1=>by omega,HK2.out,HK3.out,HK4.out⟩
 case round =>
  clear HK2 HK3 HK4;obtain ⟨k,hk,rfl,hno,hra,hrb,hbel⟩:=hrel;have HNO:=hid hno;have HRA:=hid hra;have HRB:=hid hrb;have HB:=hid hbel;clear hno hra hrb hbel;by_cases hlt:k<m.arcs.length
  ·have hlt1:(k:Int)<(m.arcs.length:Int):=by omega
   obtain ⟨g1,o1,hA1,hg1,hx1⟩:=eP AM.cells_len (by decide) HC.out (by omega);have HX:=hid (show ∀ j v,(AM.cells m.arcs[k])[j]? = some v->wr.cell? ⟨g1,o1+k*6+j,none⟩=some v from fun j v h=>(HB.out.cell (p:=⟨g1,o1+k*6+j,none⟩) hg1).trans (hx1 k hlt j v h));have HPA:=hid (show ∃ p,m.arcs[k]=p from ⟨_,rfl⟩);obtain ⟨a,ha⟩:=HPA.out;rw [ha] at HX;have HA:=hid ha;clear hx1 ha HPA
   have x0:=HX.out 0 _ rfl;have x1:=HX.out 1 _ rfl;have x2:=HX.out 2 _ rfl;have x3:=HX.out 3 _ rfl;have x4:=HX.out 4 _ rfl;have x5:=HX.out 5 _ rfl;rw [Nat.add_zero] at x0;clear HX;obtain ⟨n4,p4⟩:=Na wr (.cells #[.int .i64 a.a.frm,.int .i64 a.a.tgt,.int .i64 a.a.prof,.int .i64 a.a.miles,.slice a.A a.a.trav.length a.ca,.slice a.C a.a.slow.length a.cc] 188);have HN4:=hid n4;rw [hA1]
   go_upto_region 5 with fail;clear x0 x1 x2 x3 x4 x5;generalize wr.alloc (.cells #[.int .i64 a.a.frm,.int .i64 a.a.tgt,.int .i64 a.a.prof,.int .i64 a.a.miles,.slice a.A a.a.trav.length a.ca,.slice a.C a.a.slow.length a.cc] 188)=w4 at *;have HB5:=hid (bL HB.out HN4.out);have HRA5:=hid (rK HRA.out HN4.out);have HRB5:=hid (rK HRB.out HN4.out);have HP5:=hid p4
   obtain ⟨g5,hg5⟩:∃ g5,g5=wr.heap.size:=⟨_,rfl⟩
   rw [<- hg5] at p4 HP5;rw [<- hg5];clear hg5 HN4 HRA HRB HB;go_cut [27] (fun x wx=>x=.bool (ic prof frm tgt a)/\Below w4.heap.size w4 wx)
   case first =>
    obtain ⟨c0,c1,c2,c3,c4,c5⟩:=C6 p4;obtain ⟨d0,d1,d2⟩:=cells3 HRB5.out;have hgb4:=lh HRB5.out;have hg54:=lh p4
    have HKP:=hid (show ∀ w' w2,(Below w4.heap.size w4 w'/\w'.cell? ⟨g5,0,none⟩=some (.int .i64 a.a.frm)/\w'.cell? ⟨g5,1,none⟩=some (.int .i64 a.a.tgt)/\w'.cell? ⟨g5,2,none⟩=some (.int .i64 a.a.prof)/\w'.cell? ⟨g5,3,none⟩=some (.int .i64 a.a.miles)/\w'.cell? ⟨g5,4,none⟩=some (.slice a.A a.a.trav.length a.ca)/\w'.cell? ⟨g5,5,none⟩=some (.slice a.C a.a.slow.length a.cc)/\w'.cell? ⟨gb,0,none⟩=some (.int .i64 frm)/\w'.cell? ⟨gb,1,none⟩=some (.int .i64 tgt)/\w'.cell? ⟨gb,2,none⟩=some (.int .i64 prof))->Below w'.heap.size w' w2->(Below w4.heap.size w4 w2/\w2.cell? ⟨g5,0,none⟩=some (.int .i64 a.a.frm)/\w2.cell? ⟨g5,1,none⟩=some (.int .i64 a.a.tgt)/\w2.cell? ⟨g5,2,none⟩=some (.int .i64 a.a.prof)/\w2.cell? ⟨g5,3,none⟩=some (.int .i64 a.a.miles)/\w2.cell? ⟨g5,4,none⟩=some (.slice a.A a.a.trav.length a.ca)/\w2.cell? ⟨g5,5,none⟩=some (.slice a.C a.a.slow.length a.cc)/\w2.cell? ⟨gb,0,none⟩=some (.int .i64 frm)/\w2.cell? ⟨gb,1,none⟩=some (.int .i64 tgt)/\w2.cell? ⟨gb,2,none⟩=some (.int .i64 prof)) from fun w' w2 ⟨h0,h1,h2,h3,h4,h5,h6,h7,h8,h9⟩ hb=>by
     exact ⟨bL h0 hb,ch h0 hb hg54 h1,ch h0 hb hg54 h2,ch h0 hb hg54 h3,ch h0 hb hg54 h4,ch h0 hb hg54 h5,ch h0 hb hg54 h6,ch h0 hb hgb4 h7,ch h0 hb hgb4 h8,ch h0 hb hgb4 h9⟩)
    have hS0:Below w4.heap.size w4 w4.drew/\w4.drew.cell? ⟨g5,0,none⟩=some (.int .i64 a.a.frm)/\w4.drew.cell? ⟨g5,1,none⟩=some (.int .i64 a.a.tgt)/\w4.drew.cell? ⟨g5,2,none⟩=some (.int .i64 a.a.prof)/\w4.drew.cell? ⟨g5,3,none⟩=some (.int .i64 a.a.miles)/\w4.drew.cell? ⟨g5,4,none⟩=some (.slice a.A a.a.trav.length a.ca)/\w4.drew.cell? ⟨g5,5,none⟩=some (.slice a.C a.a.slow.length a.cc)/\w4.drew.cell? ⟨gb,0,none⟩=some (.int .i64 frm)/\w4.drew.cell? ⟨gb,1,none⟩=some (.int .i64 tgt)/\w4.drew.cell? ⟨gb,2,none⟩=some (.int .i64 prof):=⟨(Below.refl _ w4).drew,c0,c1,c2,c3,c4,c5,d0,d1,d2⟩
    have HWA:=hid (fun wz=>wayOf_any a wz);have HIS:=hid (show ic prof frm tgt a=(a.a.frm == frm && a.a.tgt == tgt && a.a.prof == prof) from rfl);generalize ic prof frm tgt a=ia at *;cases e1:a.a.frm == frm <;> cases e2:a.a.tgt == tgt <;> cases e3:a.a.prof == prof <;> rw [e1,e2,e3] at HIS
    all_goals go_region_held3 (fun w'=>Below w4.heap.size w4 w'/\w'.cell? ⟨g5,0,none⟩=some (.int .i64 a.a.frm)/\w'.cell? ⟨g5,1,none⟩=some (.int .i64 a.a.tgt)/\w'.cell? ⟨g5,2,none⟩=some (.int .i64 a.a.prof)/\w'.cell? ⟨g5,3,none⟩=some (.int .i64 a.a.miles)/\w'.cell? ⟨g5,4,none⟩=some (.slice a.A a.a.trav.length a.ca)/\w'.cell? ⟨g5,5,none⟩=some (.slice a.C a.a.slow.length a.cc)/\w'.cell? ⟨gb,0,none⟩=some (.int .i64 frm)/\w'.cell? ⟨gb,1,none⟩=some (.int .i64 tgt)/\w'.cell? ⟨gb,2,none⟩=some (.int .i64 prof))
     (first | (exact HKP.out _ _ (by assumption) hbz) | (with_reducible exact hS0))
     ((go_at_call 139;((with_reducible refine (HWA.out _).mono ?_);rintro e wz ⟨rfl,hbz⟩)))
    all_goals
     have HBZ:=hid (show Below w4.heap.size w4 wz/\wz.cell? ⟨g5,0,none⟩=some (.int .i64 a.a.frm)/\wz.cell? ⟨g5,1,none⟩=some (.int .i64 a.a.tgt)/\wz.cell? ⟨g5,2,none⟩=some (.int .i64 a.a.prof)/\wz.cell? ⟨g5,3,none⟩=some (.int .i64 a.a.miles)/\wz.cell? ⟨g5,4,none⟩=some (.slice a.A a.a.trav.length a.ca)/\wz.cell? ⟨g5,5,none⟩=some (.slice a.C a.a.slow.length a.cc)/\wz.cell? ⟨gb,0,none⟩=some (.int .i64 frm)/\wz.cell? ⟨gb,1,none⟩=some (.int .i64 tgt)/\wz.cell? ⟨gb,2,none⟩=some (.int .i64 prof) from by assumption).1
     go_wp2_with fail;go_meet;exact ⟨by rw [HIS.out];rfl,HBZ.out⟩
   case rest =>
    obtain ⟨rfl,hbc⟩:=hcut;have HBC:=hid (bL HB5.out hbc);have HRA6:=hid (rK HRA5.out hbc);have HRB6:=hid (rK HRB5.out hbc);have HP6:=hid (rK HP5.out hbc);clear hbc HB5 HRA5 HRB5 HP5 p4
    cases hia:ic prof frm tgt a with
    |true =>
     have z0:=fz HRA6.out 0;have z1:=fz HRA6.out 1;have z2:=fz HRA6.out 2;have z3:=fz HRA6.out 3;have z4:=fz HRA6.out 4;have z5:=fz HRA6.out 5;obtain ⟨y0,y1,y2,y3,y4,y5⟩:=C6 HRA6.out;obtain ⟨c0,c1,c2,c3,c4,c5⟩:=C6 HP6.out
     have HS:=hid (set6 (a:=.int .i64 a.a.frm) (b:=.int .i64 a.a.tgt) (c:=.int .i64 a.a.prof) (d:=.int .i64 a.a.miles) (e:=.slice a.A a.a.trav.length a.ca) (f:=.slice a.C a.a.slow.length a.cc) HRA6.out HBC.out HGA.out.1);have HIA:=hid hia;clear hia;go_wp2_with fail;refine bodyPost_ret (rr rfl (ld_arc HS.out.1) rfl rfl) rfl ?_
     have:=FE.yes hlt HNO.out (by rw [HA.out];exact HIA.out) HS.out.2;rw [HA.out] at this;exact this
    |false =>
     have HIA:=hid hia;clear hia;go_wp2_with fail;go_roundw
     case rel =>
      refine ⟨k+1,by omega,by go_num,fun j hj hjk=>?_,HRA6.out,HRB6.out,HBC.out⟩;rcases Nat.lt_or_eq_of_le (Nat.le_of_lt_succ hjk) with h6 | h6
      ·exact HNO.out j hj h6
      ·subst h6;rw [HA.out];exact HIA.out
     case measure=>simp [intOf];omega
  ·have hlt1:¬ (k:Int)<(m.arcs.length:Int):=by omega
   have z0:=fz HRA.out 0;have z1:=fz HRA.out 1;have z2:=fz HRA.out 2;have z3:=fz HRA.out 3;have z4:=fz HRA.out 4;have z5:=fz HRA.out 5;obtain ⟨y0,y1,y2,y3,y4,y5⟩:=C6 HRA.out;have HS:=hid (set6 (a:=.int .i64 0) (b:=.int .i64 0) (c:=.int .i64 0) (d:=.int .i64 0) (e:=.slice none 0 0) (f:=.slice none 0 0) HRA.out HB.out HGA.out.1);have HEK:=hid (show k=m.arcs.length by omega)
   go_wp2_with fail;refine bodyPost_ret (rr rfl (ld_arc HS.out.1) rfl rfl) rfl ?_;exact FE.no (fun j hj=>HNO.out j hj (by rw [HEK.out];exact hj)) HS.out.2
theorem slowS_take {l:List (Int × Int)} {t:Int} {k:Nat} (hk:k<l.length):SS (l.take (k+1)) t=SS (l.take k) t+(if l[k].1<=t then l[k].2 else 0):=by
 unfold SS;rw [List.take_succ_eq_append_getElem hk,List.map_append,List.sum_append];simp
theorem slowS_takeB {l:List (Int × Int)} (h:∀ p ∈ l,iT p.2) (hl:l.length<=16) (k:Nat) (t:Int):0<=SS (l.take k) t/\SS (l.take k) t<=65536:=by
 obtain ⟨h1,h2⟩:=Sd (l.take k) t fun p hp=>h p (List.mem_of_mem_take hp);have:=List.length_take (i:=k) (l:=l);omega
theorem narrival_any (a:AM) (t:Int) (w:World) (ha:AR w a) (hok:AK a.a) (ht:0<=t/\t<=1000000) (hT:Tb w) :
  Calls Tryz.prog 97 #[arcA a,.int .i64 t] w fun e w'=>e=.returned (.int .i64 (Cq a.a t))/\Below w.heap.size w w':=by
 obtain ⟨n4,p4⟩:=Na w (.cells #[.int .i64 a.a.frm,.int .i64 a.a.tgt,.int .i64 a.a.prof,.int .i64 a.a.miles,.slice a.A a.a.trav.length a.ca,.slice a.C a.a.slow.length a.cc] 188);have HN4:=hid n4;have HTR:=hid (Dj a.a.trav a.A a.ca t _ (ha.trav.below n4) ha.tl hok.trav ⟨ht.1,by omega⟩ (hT.below n4));obtain ⟨hb1,hb2⟩:=arrT_bound hok.trav ht.1
 have HSB:=hid (fun k=>slowS_takeB (fun p hp=>(hok.slow.each p hp).2) hok.slow.len k t);have HSE:=hid hok.slow.each;have HSL:=hid ha.slow;have hsl:=ha.sl;have hs16:=hok.slow.len;have HEQ:=hid (show Cq a.a t=ar a.a.trav t+SS (a.a.slow.take a.a.slow.length) t by rw [List.take_length];rfl);unfold maxLen at hsl;generalize ar a.a.trav t=r0 at *;generalize Cq a.a t=res at *
 clear ha hok hT n4;go_enter Tryz.func97,Tryz.ntmps97;(try simp only [Bm]);go_upto_region 1 with fail;generalize w.alloc (.cells #[.int .i64 a.a.frm,.int .i64 a.a.tgt,.int .i64 a.a.prof,.int .i64 a.a.miles,.slice a.A a.a.trav.length a.ca,.slice a.C a.a.slow.length a.cc] 188)=w4 at *;obtain ⟨g4,hg4⟩:∃ g4,g4=w.heap.size:=⟨_,rfl⟩
 rw [<- hg4] at p4;rw [<- hg4];have HP4:=hid p4;obtain ⟨c0,c1,c2,c3,c4,c5⟩:=C6 p4;clear p4 hg4;go_wp2_with fail;refine HTR.out.mono ?_;rintro e w1 ⟨rfl,hb1'⟩;clear c0 c1 c2 c3 c4 c5;have HB1:=hid (bL HN4.out hb1');have HP1:=hid (rK HP4.out hb1');obtain ⟨c0,c1,c2,c3,c4,c5⟩:=C6 HP1.out;clear hb1' HN4 HP4;generalize hsl0:a.a.slow=sl at *;generalize a.C=C at *
 generalize a.cc=cc at *;go_wp2_with fail;clear c0 c1 c2 c3 c4 c5 HP1 HTR;go_loopw [5,15] (fun o j wr=>∃ k:Nat,k<=sl.length/\j=.int .i64 k/\o=.int .i64 (r0+SS (sl.take k) t)/\Below w.heap.size w wr) (fun _ j _=>sl.length - (intOf j).toNat)
 case atStart=>exact ⟨0,Nat.zero_le _,rfl,by simp [SS],HB1.out⟩
 case round =>
  clear HB1;obtain ⟨k,hk,rfl,rfl,hbel⟩:=hrel;have HB:=hid hbel;clear hbel;obtain ⟨hs1,hs2⟩:=HSB.out k;by_cases hlt:k<sl.length
  ·have hlt1:(k:Int)<(sl.length:Int):=by omega
   have HST:=hid (slowS_take (t:=t) hlt);obtain ⟨g1,o1,hA1,hg1,hx1⟩:=eP pC (by decide) HSL.out (by omega);subst hA1;have x0:=(HB.out.cell (p:=⟨g1,o1+k*2,none⟩) hg1).trans (hx1 k hlt 0 (.int .i64 sl[k].1) rfl);have x1:=(HB.out.cell (p:=⟨g1,o1+k*2+1,none⟩) hg1).trans (hx1 k hlt 1 (.int .i64 sl[k].2) rfl);have hq:=HSE.out _ (List.getElem_mem hlt);unfold iT at hq
   generalize sl[k]=p at *;generalize SS (sl.take k) t=sk at *;obtain ⟨n5,p5⟩:=Na wr (.cells #[.int .i64 p.1,.int .i64 p.2] 74);clear hx1;go_upto_region 5 with fail;clear x0 x1;generalize wr.alloc (.cells #[.int .i64 p.1,.int .i64 p.2] 74)=w5 at *;have HB5:=hid (bL HB.out n5);obtain ⟨x0,x1⟩:=C2 p5;clear n5 p5;by_cases h1:p.1<=t
   ·have HE:=hid (show SS (sl.take (k+1)) t=sk+p.2 by rw [HST.out,if_pos h1])
    clear HST;go_wp2_with fail;go_roundw
    case rel=>exact ⟨k+1,by omega,by go_num,by rw [HE.out];try rw [Int.add_assoc],HB5.out⟩
    case measure=>simp [intOf];omega
   ·have HE:=hid (show SS (sl.take (k+1)) t=sk by rw [HST.out,if_neg h1,Int.add_zero])
    clear HST;go_wp2_with fail;go_roundw
    case rel=>exact ⟨k+1,by omega,by go_num,by rw [HE.out];try rw [Int.add_assoc],HB5.out⟩
    case measure=>simp [intOf];omega
  ·have hlt1:¬ (k:Int)<(sl.length:Int):=by omega
   have HKE:=hid (show k=sl.length by omega);go_wp2_with fail;go_ret;exact ⟨ri (by rw [HEQ.out,<- HKE.out]),HB.out⟩
theorem Dh (s:St) (t:Int) (w:World):Calls Tryz.prog 128 #[.agg #[.int .i64 s.place,.int .i64 s.opn,.int .i64 s.cls,.int .i64 s.serv],.int .i64 t] w fun e w'=>e=.returned (.tuple #[.int .i64 (if max t s.opn > s.cls then 0 else max t s.opn),.int .i64 (if max t s.opn > s.cls then 14 else 0)])/\Below w.heap.size w w':=by
 obtain ⟨n4,p4⟩:=Na w (.cells #[.int .i64 s.place,.int .i64 s.opn,.int .i64 s.cls,.int .i64 s.serv] 134);have HN4:=hid n4;clear n4;by_cases h2:s.cls<max t s.opn
 ·have HR:=hid (show (if max t s.opn > s.cls then (0:Int) else max t s.opn)=0/\(if max t s.opn > s.cls then (14:Int) else 0)=14 from ⟨if_pos h2,if_pos h2⟩)
  rw [HR.out.1,HR.out.2];clear HR;go_enter Tryz.func128,Tryz.ntmps128;go_upto_region 1 with fail;generalize w.alloc (.cells #[.int .i64 s.place,.int .i64 s.opn,.int .i64 s.cls,.int .i64 s.serv] 134)=w4 at *;obtain ⟨c0,c1,c2,c3⟩:=C4 p4;go_wp2_with fail;go_ret2;exact ⟨rfl,HN4.out⟩
 ·have HR:=hid (show (if max t s.opn > s.cls then (0:Int) else max t s.opn)=max t s.opn/\(if max t s.opn > s.cls then (14:Int) else 0)=0 from ⟨if_neg h2,if_neg h2⟩)
  rw [HR.out.1,HR.out.2];clear HR;go_enter Tryz.func128,Tryz.ntmps128;go_upto_region 1 with fail;generalize w.alloc (.cells #[.int .i64 s.place,.int .i64 s.opn,.int .i64 s.cls,.int .i64 s.serv] 134)=w4 at *;obtain ⟨c0,c1,c2,c3⟩:=C4 p4;go_wp2_with fail;go_ret2;exact ⟨rfl,HN4.out⟩
def GoE (x:IV) (prof frm tgt t:Int) (w:World) (e:Ending) (w':World):Prop:=e=.returned (.tuple #[.int .i64 (gP x prof frm tgt t).1,.int .i64 (gP x prof frm tgt t).2.1,.int .i64 (gP x prof frm tgt t).2.2])/\Below w.heap.size w w'
def goM (t:Int):Option AM->Int × Int × Int
 |some a=>(Cq a.a t,a.a.miles,0)
 |none=>(0,0,12)
theorem goP_e {m:IM} {prof frm tgt t:Int}:gP m.v prof frm tgt t=if !iP m.v frm || !iP m.v tgt then (0,0,(11:Int)) else if frm=tgt then (t,0,0) else goM t (m.arcs.find? (ic prof frm tgt)):=by
 unfold gP
 have:(m.v.arcs.find? fun a=>a.frm == frm && a.tgt == tgt && a.prof == prof)=(m.arcs.find? (ic prof frm tgt)).map (·.a):=by
  show ((m.arcs.map (·.a)).find? _)=_
  rw [List.find?_map];rfl
 rw [this];cases m.arcs.find? (ic prof frm tgt) <;> rfl
theorem GoE.of {x:IV} {prof frm tgt t a b c:Int} {w w':World} (h:gP x prof frm tgt t=(a,b,c)) (hb:Below w.heap.size w w'):GoE x prof frm tgt t w (.returned (.tuple #[.int .i64 a,.int .i64 b,.int .i64 c])) w':=by unfold GoE;rw [h];exact ⟨rfl,hb⟩
theorem Ny (m:IM) (prof frm tgt t:Int) (w:World) (hm:IA w m) (hok:IK m.v) (ht:0<=t/\t<=1000000) (hT:Tb w) :
  Calls Tryz.prog 44 #[netA m,.int .i64 prof,.int .i64 frm,.int .i64 tgt,.int .i64 t] w (GoE m.v prof frm tgt t w):=by
 obtain ⟨n4,p4⟩:=Na w (.cells #[.slice m.pA m.places.length m.pc,.slice m.aA m.arcs.length m.ac] 25);have HN4:=hid n4;have HP4:=hid p4;have HI:=hid (hm.below n4);have HT:=hid (hT.below n4);have HOK:=hid hok;have HGP:=hid (goP_e (m:=m) (prof:=prof) (frm:=frm) (tgt:=tgt) (t:=t));have hnp:m.places.length<=6:=hok.np
 have hna:m.arcs.length<=40:=by have:=hok.na;unfold IM.v at this;simpa using this
 clear n4 p4 hm hok hT;go_enter Tryz.func44,Tryz.ntmps44;(try simp only [Bm]);go_upto_region 1 with fail;generalize w.alloc (.cells #[.slice m.pA m.places.length m.pc,.slice m.aA m.arcs.length m.ac] 25)=w4 at *;obtain ⟨g4,hg4⟩:∃ g4,g4=w.heap.size:=⟨_,rfl⟩
 rw [<- hg4] at HP4;rw [<- hg4];clear hg4;obtain ⟨c0,c1⟩:=C2 HP4.out;go_wp2_with fail;refine (nplace_any m frm w4 hnp).mono ?_;rintro e w1 ⟨rfl,hb1⟩;clear c0 c1;have HB1:=hid (bL HN4.out hb1);have HP1:=hid (rK HP4.out hb1);have HI1:=hid (HI.out.below hb1);have HT1:=hid (HT.out.below hb1);clear hb1 HN4 HP4 HI HT
 cases hf:iP m.v frm with
 |false =>
  have HG:=hid (show gP m.v prof frm tgt t=(0,0,11) by rw [HGP.out,hf];rfl);clear HGP hf;go_wp2_with fail;go_ret3;exact GoE.of HG.out HB1.out
 |true =>
  rw [hf] at HGP;clear hf;obtain ⟨c0,c1⟩:=C2 HP1.out;go_wp2_with fail;refine (nplace_any m tgt w1 hnp).mono ?_;rintro e w2 ⟨rfl,hb2⟩;clear c0 c1;have HB2:=hid (bL HB1.out hb2);have HP2:=hid (rK HP1.out hb2);have HI2:=hid (HI1.out.below hb2);have HT2:=hid (HT1.out.below hb2);clear hb2 HB1 HP1 HI1 HT1
  cases hf:iP m.v tgt with
  |false =>
   have HG:=hid (show gP m.v prof frm tgt t=(0,0,11) by rw [HGP.out,hf];rfl);clear HGP hf;go_wp2_with fail;go_ret3;exact GoE.of HG.out HB2.out
  |true =>
   rw [hf] at HGP;clear hf;by_cases he:frm=tgt
   ·have HG:=hid (show gP m.v prof frm tgt t=(t,0,0) by rw [HGP.out];show (if frm=tgt then _ else _)=_;rw [if_pos he])
    have he1:(frm == tgt)=true:=iB he;clear HGP he;go_wp2_with fail;go_ret3;exact GoE.of HG.out HB2.out
   ·have HG:=hid (show gP m.v prof frm tgt t=goM t (m.arcs.find? (ic prof frm tgt)) by rw [HGP.out];show (if frm=tgt then _ else _)=_;rw [if_neg he])
    have he1:(frm == tgt)=false:=ib he;clear HGP he;have HFI:=hid (nfind_any m prof frm tgt w2 HI2.out.arcs hna HI2.out.al);unfold FE at HFI;obtain ⟨c0,c1⟩:=C2 HP2.out
    cases hf:m.arcs.find? (ic prof frm tgt) with
    |none =>
     rw [hf] at HFI HG;clear hf;go_wp2_with fail;refine HFI.out.mono ?_;rintro e w3 ⟨rfl,hb3⟩;have HB3:=hid (bL HB2.out hb3);have HB4:=hid (bL HB3.out (Na w3 (.cells #[.int .i64 0,.int .i64 0,.int .i64 0,.int .i64 0,.slice none 0 0,.slice none 0 0] 188)).1);clear hb3;go_wp2_with fail;go_ret3;exact GoE.of HG.out HB4.out
    |some a =>
     rw [hf] at HFI HG;have hmem:=List.mem_of_find?_eq_some hf;have HAO:=hid (HOK.out.arcs a.a (List.mem_map.2 ⟨a,hmem,rfl⟩));have HAA:=hid (HI2.out.arcE a hmem);clear hf hmem;go_wp2_with fail;refine HFI.out.mono ?_;rintro e w3 ⟨rfl,hb3⟩
     obtain ⟨n5,p5⟩:=Na w3 (.cells #[.int .i64 a.a.frm,.int .i64 a.a.tgt,.int .i64 a.a.prof,.int .i64 a.a.miles,.slice a.A a.a.trav.length a.ca,.slice a.C a.a.slow.length a.cc] 188);have HB3:=hid (bL (bL HB2.out hb3) n5)
     have HAR:=hid (fun wz (hb:Below (w3.alloc (.cells #[.int .i64 a.a.frm,.int .i64 a.a.tgt,.int .i64 a.a.prof,.int .i64 a.a.miles,.slice a.A a.a.trav.length a.ca,.slice a.C a.a.slow.length a.cc] 188)).heap.size (w3.alloc (.cells #[.int .i64 a.a.frm,.int .i64 a.a.tgt,.int .i64 a.a.prof,.int .i64 a.a.miles,.slice a.A a.a.trav.length a.ca,.slice a.C a.a.slow.length a.cc] 188)) wz)=>narrival_any a t wz (((HAA.out.below hb3).below n5).below hb) HAO.out ht (((HT2.out.below hb3).below n5).below hb))
     clear hb3 n5;go_upto_region 8 with fail;generalize w3.alloc (.cells #[.int .i64 a.a.frm,.int .i64 a.a.tgt,.int .i64 a.a.prof,.int .i64 a.a.miles,.slice a.A a.a.trav.length a.ca,.slice a.C a.a.slow.length a.cc] 188)=w5 at *;obtain ⟨g5,hg5'⟩:∃ g5,g5=w3.heap.size:=⟨_,rfl⟩
     rw [<- hg5'] at p5;rw [<- hg5'];have hg5:=lh p5;obtain ⟨c0,c1,c2,c3,c4,c5⟩:=C6 p5;clear hg5' p5
     have HKP:=hid (show ∀ w' w2,(Below w5.heap.size w5 w'/\w'.cell? ⟨g5,0,none⟩=some (.int .i64 a.a.frm)/\w'.cell? ⟨g5,1,none⟩=some (.int .i64 a.a.tgt)/\w'.cell? ⟨g5,2,none⟩=some (.int .i64 a.a.prof)/\w'.cell? ⟨g5,3,none⟩=some (.int .i64 a.a.miles)/\w'.cell? ⟨g5,4,none⟩=some (.slice a.A a.a.trav.length a.ca)/\w'.cell? ⟨g5,5,none⟩=some (.slice a.C a.a.slow.length a.cc))->Below w'.heap.size w' w2->(Below w5.heap.size w5 w2/\w2.cell? ⟨g5,0,none⟩=some (.int .i64 a.a.frm)/\w2.cell? ⟨g5,1,none⟩=some (.int .i64 a.a.tgt)/\w2.cell? ⟨g5,2,none⟩=some (.int .i64 a.a.prof)/\w2.cell? ⟨g5,3,none⟩=some (.int .i64 a.a.miles)/\w2.cell? ⟨g5,4,none⟩=some (.slice a.A a.a.trav.length a.ca)/\w2.cell? ⟨g5,5,none⟩=some (.slice a.C a.a.slow.length a.cc)) from fun w' w2 ⟨h0,h1,h2,h3,h4,h5,h6⟩ hb=>⟨bL h0 hb,ch h0 hb hg5 h1,ch h0 hb hg5 h2,ch h0 hb hg5 h3,ch h0 hb hg5 h4,ch h0 hb hg5 h5,ch h0 hb hg5 h6⟩)
     have hS0:Below w5.heap.size w5 w5.drew/\w5.drew.cell? ⟨g5,0,none⟩=some (.int .i64 a.a.frm)/\w5.drew.cell? ⟨g5,1,none⟩=some (.int .i64 a.a.tgt)/\w5.drew.cell? ⟨g5,2,none⟩=some (.int .i64 a.a.prof)/\w5.drew.cell? ⟨g5,3,none⟩=some (.int .i64 a.a.miles)/\w5.drew.cell? ⟨g5,4,none⟩=some (.slice a.A a.a.trav.length a.ca)/\w5.drew.cell? ⟨g5,5,none⟩=some (.slice a.C a.a.slow.length a.cc):=⟨(Below.refl _ w5).drew,c0,c1,c2,c3,c4,c5⟩
     go_region_held3 (fun w'=>Below w5.heap.size w5 w'/\w'.cell? ⟨g5,0,none⟩=some (.int .i64 a.a.frm)/\w'.cell? ⟨g5,1,none⟩=some (.int .i64 a.a.tgt)/\w'.cell? ⟨g5,2,none⟩=some (.int .i64 a.a.prof)/\w'.cell? ⟨g5,3,none⟩=some (.int .i64 a.a.miles)/\w'.cell? ⟨g5,4,none⟩=some (.slice a.A a.a.trav.length a.ca)/\w'.cell? ⟨g5,5,none⟩=some (.slice a.C a.a.slow.length a.cc))
      (first | (exact HKP.out _ _ (by assumption) hbz) | (with_reducible exact hS0))
      ((go_at_call 97;((with_reducible refine (HAR.out _ (And.left (by assumption))).mono ?_);rintro e wz ⟨rfl,hbz⟩)))
     all_goals
      have HBZ:=hid (show Below w5.heap.size w5 wz/\wz.cell? ⟨g5,0,none⟩=some (.int .i64 a.a.frm)/\wz.cell? ⟨g5,1,none⟩=some (.int .i64 a.a.tgt)/\wz.cell? ⟨g5,2,none⟩=some (.int .i64 a.a.prof)/\wz.cell? ⟨g5,3,none⟩=some (.int .i64 a.a.miles)/\wz.cell? ⟨g5,4,none⟩=some (.slice a.A a.a.trav.length a.ca)/\wz.cell? ⟨g5,5,none⟩=some (.slice a.C a.a.slow.length a.cc) from by assumption).1;go_wp2_with fail
      go_ret3;exact GoE.of HG.out (bL HB3.out HBZ.out)
theorem othere_any (A:Option Addr) (n c:Nat) (i:Int) (w:World) (hl:n<=3):Calls Tryz.prog 79 #[.slice A n c,.int .i64 i] w fun e w'=>e=.returned (.bool (decide (0<=i) && decide (i<(n:Int))))/\w'=w:=by
 by_cases h1:0<=i
 ·by_cases h2:i<(n:Int)
  ·have HR:=hid (show (decide (0<=i) && decide (i<(n:Int)))=true by rw [decide_eq_true h1,decide_eq_true h2];rfl)
   rw [HR.out];go_enter Tryz.func79,Tryz.ntmps79;go_wp2_with fail;go_ret;exact ⟨rfl,rfl⟩
  ·have HR:=hid (show (decide (0<=i) && decide (i<(n:Int)))=false by rw [decide_eq_false h2];simp)
   rw [HR.out];go_enter Tryz.func79,Tryz.ntmps79;go_wp2_with fail;go_ret;exact ⟨rfl,rfl⟩
 ·have HR:=hid (show (decide (0<=i) && decide (i<(n:Int)))=false by rw [decide_eq_false h1];rfl)
  rw [HR.out];go_enter Tryz.func79,Tryz.ntmps79;go_wp2_with fail;go_ret;exact ⟨rfl,rfl⟩
abbrev Dk (s:St):Value:=.agg #[.int .i64 s.place,.int .i64 s.opn,.int .i64 s.cls,.int .i64 s.serv]
abbrev S0:St:=⟨0,0,0,0⟩
def SE (x:IV) (v:Int × Bool) (w:World) (e:Ending) (w':World):Prop :=
 (match sO x v with
 |some s=>e=.returned (.tuple #[Dk s,.int .i64 0])
 |none=>∃ k:Int,k≠0/\e=.returned (.tuple #[Dk S0,.int .i64 k]))/\Below w.heap.size w w'
theorem SE.no {x:IV} {v:Int × Bool} {w w':World} {k:Int} (h:sO x v=none) (hk:k≠0) (hb:Below w.heap.size w w'):SE x v w (.returned (.tuple #[Dk S0,.int .i64 k])) w':=by unfold SE;rw [h];exact ⟨⟨k,hk,rfl⟩,hb⟩
theorem SE.yes {x:IV} {v:Int × Bool} {w w':World} {s:St} (h:sO x v=some s) (hb:Below w.heap.size w w'):SE x v w (.returned (.tuple #[Dk s,.int .i64 0])) w':=by unfold SE;rw [h];exact ⟨rfl,hb⟩
def SR (s:St):Array Value:=#[.int .i64 s.place,.int .i64 s.opn,.int .i64 s.cls,.int .i64 s.serv]
theorem stopOf_e {m:IM} {v:Int × Bool} (h0:0<=v.1) (h1:v.1.toNat<m.ords.length):sO m.v v=if (if v.2 then m.ords[v.1.toNat].o.drop else m.ords[v.1.toNat].o.pick).place<0 then none else some (if v.2 then m.ords[v.1.toNat].o.drop else m.ords[v.1.toNat].o.pick):=by
 unfold sO;rw [if_neg (by omega)]
 have:m.v.ords[v.1.toNat]? = some m.ords[v.1.toNat].o:=by
  show (m.ords.map (·.o))[v.1.toNat]? = _
  rw [List.getElem?_map,List.getElem?_eq_getElem h1];rfl
 rw [this]
theorem stopOf_no {m:IM} {v:Int × Bool} (h:(decide (0<=v.1) && decide (v.1<(m.ords.length:Int)))=false):sO m.v v=none:=by
 unfold sO;by_cases h0:v.1<0
 ·rw [if_pos h0]
 ·rw [if_neg h0]
  rw [decide_eq_true (by omega),Bool.true_and,decide_eq_false_iff_not] at h
  have:m.v.ords[v.1.toNat]? = none:=by
   show (m.ords.map (·.o))[v.1.toNat]? = _
   rw [List.getElem?_eq_none];rw [List.length_map];omega
  rw [this]
theorem oy (m:IM) (v:Int × Bool) (w:World) (hc:Cs w m.oA (m.ords.flatMap OM.cells)) (hn:m.ords.length<=m.oc/\m.oc<=maxLen) (hl:m.ords.length<=3) (hv:fits v.1) :
  Calls Tryz.prog 71 #[.slice m.oA m.ords.length m.oc,.agg #[.int .i64 v.1,.bool v.2]] w (SE m.v v w):=by
 have HC:=hid hc;unfold maxLen at hn;clear hc;obtain ⟨k1,k2,k3⟩:=aL w (.cells #[.int .i64 v.1,.bool v.2] 92) (.cells (SR S0) 134);have HB2:=hid k3;have HK1:=hid k1;have HK2:=hid k2;clear k1 k2 k3;go_enter Tryz.func71,Tryz.ntmps71;(try simp only [Bm]);go_upto_region 1 with fail
 rw [show ((w.alloc (.cells #[.int .i64 v.1,.bool v.2] 92)).alloc (.cells #[.int .i64 0,.int .i64 0,.int .i64 0,.int .i64 0] 134))=((w.alloc (.cells #[.int .i64 v.1,.bool v.2] 92)).alloc (.cells (SR S0) 134)) from rfl];generalize ((w.alloc (.cells #[.int .i64 v.1,.bool v.2] 92)).alloc (.cells (SR S0) 134))=w2 at *;obtain ⟨ga,hga⟩:∃ ga,ga=w.heap.size:=⟨_,rfl⟩
 obtain ⟨gb,hgb⟩:∃ gb,gb=w.heap.size+1:=⟨_,rfl⟩
 rw [<- hgb] at HK2;rw [<- hgb,<- hga];rw [<- hga] at HK1;have HGA:=hid (show w.heap.size<=gb by omega);clear hga hgb;obtain ⟨c0,c1⟩:=C2 HK1.out;obtain ⟨y0,y1,y2,y3⟩:=C4 HK2.out;have z0:=fz HK2.out 0;have z1:=fz HK2.out 1;have z2:=fz HK2.out 2;have z3:=fz HK2.out 3;go_wp2_with fail;refine (othere_any m.oA m.ords.length m.oc v.1 w2 hl).mono ?_;rintro e w3 ⟨rfl,hw3⟩;obtain rfl:=hw3.symm
 cases hth:(decide (0<=v.1) && decide (v.1<(m.ords.length:Int))) with
 |false =>
  have HN:=hid (stopOf_no hth);have HS:=hid (set4 (a:=.int .i64 0) (b:=.int .i64 0) (c:=.int .i64 0) (d:=.int .i64 0) HK2.out HB2.out HGA.out);clear hth;go_wp2_with fail;refine bodyPost_ret (rr rfl (ld_stp HS.out.1) rfl rfl) rfl ?_;exact SE.no HN.out (by decide) HS.out.2
 |true =>
  obtain ⟨h1,h2⟩:=Bool.and_eq_true_iff.1 hth;rw [decide_eq_true_eq] at h1 h2;clear hth;obtain ⟨i,hi⟩:∃ i:Nat,v.1=(i:Int):=⟨v.1.toNat,by omega⟩
  have hlt:i<m.ords.length:=by omega
  have hit:v.1.toNat=i:=by omega
  have HSO:=hid (stopOf_e (m:=m) h1 (by omega));simp only [hit] at HSO;obtain ⟨g1,o1,hA1,hg1,hx1⟩:=eP OM.cells_len (by decide) HC.out (by omega);have hx:=fun j u h=>(HB2.out.cell (p:=⟨g1,o1+i*16+j,none⟩) hg1).trans (hx1 i hlt j u h);generalize m.ords[i]=om at *;clear hx1;rw [hi] at c0;rw [hi,hA1];clear hit;have HX:=hid hx;clear hx y0 y1 y2 y3 z0 z1 z2 z3;have x2:=HX.out 2 _ rfl
  have x3:=HX.out 3 _ rfl;have x4:=HX.out 4 _ rfl;have x5:=HX.out 5 _ rfl;obtain ⟨n3,p3⟩:=Na w2 (.cells (SR om.o.pick) 134);have HN3:=hid n3;have HX3:=hid (fun j u (h:om.cells[j]? = some u)=>(n3.cell (p:=⟨g1,o1+i*16+j,none⟩) (Nat.lt_of_lt_of_le hg1 HB2.out.size)).trans (HX.out j u h))
  have HC3:=hid (show (w2.alloc (.cells (SR om.o.pick) 134)).heap[ga]? = _ from rK HK1.out n3);clear n3;go_upto_region 4 with fail;rw [show w2.alloc (.cells #[.int .i64 om.o.pick.place,.int .i64 om.o.pick.opn,.int .i64 om.o.pick.cls,.int .i64 om.o.pick.serv] 134)=w2.alloc (.cells (SR om.o.pick) 134) from rfl];generalize w2.alloc (.cells (SR om.o.pick) 134)=w3 at *
  obtain ⟨gc,hgc⟩:∃ gc,gc=w2.heap.size:=⟨_,rfl⟩
  rw [<- hgc] at p3;rw [<- hgc];have HGC:=hid hgc;clear x2 x3 x4 x5 HX hgc;obtain ⟨d0,d1⟩:=C2 HC3.out;rw [hi] at d0;have HP3:=hid p3;obtain ⟨e0,e1,e2,e3⟩:=C4 p3;clear c0 c1 p3
  cases hb:v.2 with
  |false =>
   rw [hb] at d1;have hso:sO m.v v=if om.o.pick.place<0 then none else some om.o.pick:=by have:=HSO.out;rw [hb] at this;exact this
   have HSO:=hid hso;clear hso hb;generalize om.o.pick=s at *;have HSO2:=hid HSO.out;clear HSO;by_cases hpl:s.place<0
   ·have HN:=hid (show sO m.v v=none by rw [HSO2.out,if_pos hpl])
    have HS:=hid (set4 (a:=.int .i64 0) (b:=.int .i64 0) (c:=.int .i64 0) (d:=.int .i64 0) (rK HK2.out HN3.out) (bL HB2.out HN3.out) HGA.out);have z0:=fz (rK HK2.out HN3.out) 0;have z1:=fz (rK HK2.out HN3.out) 1;have z2:=fz (rK HK2.out HN3.out) 2;have z3:=fz (rK HK2.out HN3.out) 3;obtain ⟨y0,y1,y2,y3⟩:=C4 (rK HK2.out HN3.out);clear HSO2
    go_wp2_with fail;refine bodyPost_ret (rr rfl (ld_stp HS.out.1) rfl rfl) rfl ?_;exact SE.no HN.out (by decide) HS.out.2
   ·have HN:=hid (show sO m.v v=some s by rw [HSO2.out,if_neg hpl])
    have HS:=hid (set4 (a:=.int .i64 s.place) (b:=.int .i64 s.opn) (c:=.int .i64 s.cls) (d:=.int .i64 s.serv) (rK HK2.out HN3.out) (bL HB2.out HN3.out) HGA.out);have z0:=fz (rK HK2.out HN3.out) 0;have z1:=fz (rK HK2.out HN3.out) 1;have z2:=fz (rK HK2.out HN3.out) 2;have z3:=fz (rK HK2.out HN3.out) 3
    obtain ⟨y0,y1,y2,y3⟩:=C4 (rK HK2.out HN3.out);clear HSO2;go_wp2_with fail;refine bodyPost_ret (rr rfl (ld_stp HS.out.1) rfl rfl) rfl ?_;exact SE.yes HN.out HS.out.2
  |true =>
   rw [hb] at d1;have hso:sO m.v v=if om.o.drop.place<0 then none else some om.o.drop:=by have:=HSO.out;rw [hb] at this;exact this
   have HSO:=hid hso;clear hso hb;have x6:=HX3.out 6 _ rfl;have x7:=HX3.out 7 _ rfl;have x8:=HX3.out 8 _ rfl;have x9:=HX3.out 9 _ rfl;have f0:=fz HP3.out 0;have f1:=fz HP3.out 1;have f2:=fz HP3.out 2;have f3:=fz HP3.out 3
   have HS4:=hid (set4 (a:=.int .i64 om.o.drop.place) (b:=.int .i64 om.o.drop.opn) (c:=.int .i64 om.o.drop.cls) (d:=.int .i64 om.o.drop.serv) HP3.out HN3.out (by rw [HGC.out];exact Nat.le_refl _));go_upto_region 6 with fail;clear x6 x7 x8 x9 f0 f1 f2 f3 e0 e1 e2 e3 d0 d1;generalize om.o.drop=s at *
   generalize (((w3.setCell ⟨gc,0,none⟩ (.int .i64 s.place)).setCell ⟨gc,1,none⟩ (.int .i64 s.opn)).setCell ⟨gc,2,none⟩ (.int .i64 s.cls)).setCell ⟨gc,3,none⟩ (.int .i64 s.serv)=w4 at *;obtain ⟨e0,e1,e2,e3⟩:=C4 HS4.out.1;have HSO2:=hid HSO.out;clear HSO;by_cases hpl:s.place<0
   ·have HN:=hid (show sO m.v v=none by rw [HSO2.out,if_pos hpl])
    have HS:=hid (set4 (a:=.int .i64 0) (b:=.int .i64 0) (c:=.int .i64 0) (d:=.int .i64 0) (rK HK2.out HS4.out.2) (bL HB2.out HS4.out.2) HGA.out);have z0:=fz (rK HK2.out HS4.out.2) 0;have z1:=fz (rK HK2.out HS4.out.2) 1;have z2:=fz (rK HK2.out HS4.out.2) 2;have z3:=fz (rK HK2.out HS4.out.2) 3;obtain ⟨y0,y1,y2,y3⟩:=C4 (rK HK2.out HS4.out.2)
    clear HSO2;go_wp2_with fail;refine bodyPost_ret (rr rfl (ld_stp HS.out.1) rfl rfl) rfl ?_;exact SE.no HN.out (by decide) HS.out.2
   ·have HN:=hid (show sO m.v v=some s by rw [HSO2.out,if_neg hpl])
    have HS:=hid (set4 (a:=.int .i64 s.place) (b:=.int .i64 s.opn) (c:=.int .i64 s.cls) (d:=.int .i64 s.serv) (rK HK2.out HS4.out.2) (bL HB2.out HS4.out.2) HGA.out);have z0:=fz (rK HK2.out HS4.out.2) 0;have z1:=fz (rK HK2.out HS4.out.2) 1;have z2:=fz (rK HK2.out HS4.out.2) 2;have z3:=fz (rK HK2.out HS4.out.2) 3
    obtain ⟨y0,y1,y2,y3⟩:=C4 (rK HK2.out HS4.out.2);clear HSO2;go_wp2_with fail;refine bodyPost_ret (rr rfl (ld_stp HS.out.1) rfl rfl) rfl ?_;exact SE.yes HN.out HS.out.2
theorem lab0_sh (q:Ab):Db none 0 (L0 q.v)=.agg #[.int .i64 (max q.t.t.opn q.r.r.start),.int .i64 0,.bool false,.int .i64 0,.slice none 0 0,.int .i64 0,.int .i64 0]:=rfl
theorem dbegin_any (q:Ab) (w:World):Calls Tryz.prog 68 #[tr q] w fun e w'=>e=.returned (Db none 0 (L0 q.v))/\Below w.heap.size w w':=by
 rw [lab0_sh];obtain ⟨k1,k2,k3⟩:=aL w (.cells (TR q) 84) (.cells #[.int .i64 (max q.t.t.opn q.r.r.start),.int .i64 0,.bool false,.int .i64 0,.slice none 0 0,.int .i64 0,.int .i64 0] 150);have HB:=hid k3;have HK2:=hid k2;clear k1 k2 k3;obtain ⟨n4,p4⟩:=Na w (.cells (TR q) 84);have r13:=CX p4 13 (.int .i64 q.t.t.opn) rfl;have r21:=CX p4 21 (.int .i64 q.r.r.start) rfl
 clear n4 p4;go_enter Tryz.func68,Tryz.ntmps68;go_wp2_with fail;refine bodyPost_ret (Rr rfl (lL HK2.out) rfl) rfl ?_;exact ⟨rfl,HB.out⟩
theorem placeP_0 (q:Ab):pP q.v 0=q.t.t.frm:=rfl
theorem placeP_s (q:Ab) {k:Nat} (hk:k<q.stops.length):pP q.v (k+1)=q.stops[k].place:=by
 unfold pP;rw [if_neg (by omega),Nat.add_sub_cancel];show (match q.stops[k]? with | some s=>s.place | none=>0)=_
 rw [List.getElem?_eq_getElem hk]
theorem dplace_any (q:Ab) (k:Nat) (w:World) (hc:Cs w q.A (q.stops.flatMap Bw)) (hs:q.stops.length<=q.c/\q.c<=maxLen) (hk:k<=q.stops.length):Calls Tryz.prog 127 #[tr q,.int .i64 k] w fun e w'=>e=.returned (.int .i64 (pP q.v k))/\Below w.heap.size w w':=by
 unfold maxLen at hs;obtain ⟨n4,p4⟩:=Na w (.cells (TR q) 84);have HN:=hid n4;have r8:=CX p4 8 (.int .i64 q.t.t.frm) rfl;have r24:=CX p4 24 (.slice q.A q.stops.length q.c) rfl
 cases k with
 |zero =>
  rw [placeP_0];clear n4 p4 hc;go_enter Tryz.func127,Tryz.ntmps127;go_wp2_with fail;go_ret;exact ⟨rfl,HN.out⟩
 |succ k =>
  have hlt:k<q.stops.length:=by omega
  rw [placeP_s q hlt];obtain ⟨g1,o1,hA1,hg1,hx1⟩:=eP stopC_len (by decide) hc (by omega);have x0:=(n4.cell (p:=⟨g1,o1+k*4+0,none⟩) hg1).trans (hx1 k hlt 0 _ rfl);rw [Nat.add_zero] at x0;have hkk:(((k+1:Nat):Int)) - 1=(k:Int):=by omega
  have hk1:¬ ((k+1:Nat):Int)=0:=by omega
  have hk2:(((k+1:Nat):Int) == 0)=false:=ib hk1;have hlt1:(k:Int)<(q.stops.length:Int):=by omega
  generalize ((k+1:Nat):Int)=kk at *;rw [hA1] at r24;clear n4 p4 hc hx1 hk1 hA1;generalize q.stops[k]=s at *;go_enter Tryz.func127,Tryz.ntmps127;go_upto_region 1 with fail
  rw [show w.alloc (.cells #[.slice q.m.pA q.m.places.length q.m.pc,.slice q.m.aA q.m.arcs.length q.m.ac,.slice q.m.tA q.m.types.length q.m.tc,.slice q.m.oA q.m.ords.length q.m.oc,.slice q.m.xA q.m.apart.length q.m.xc,.slice q.m.bA q.m.before.length q.m.bc,.string (B q.t.t.name),.int .i64 q.t.t.count,.int .i64 q.t.t.frm,.int .i64 q.t.t.tgt,.slice q.t.A q.t.t.cap.length q.t.ca,.int .i64 q.t.t.skills,.int .i64 q.t.t.prof,.int .i64 q.t.t.opn,.int .i64 q.t.t.cls,.int .i64 q.t.t.drive,.int .i64 q.t.t.rest,.int .i64 q.t.t.fixed,.int .i64 q.t.t.mile,.int .i64 q.t.t.tick,.int .i64 q.r.r.kind,.int .i64 q.r.r.start,.slice q.r.A q.r.r.rests.length q.r.ca,.slice q.r.C q.r.r.vis.length q.r.cc,.slice q.A q.stops.length q.c] 84)=w.alloc (.cells (TR q) 84) from rfl]
  generalize w.alloc (.cells (TR q) 84)=w4 at *;go_wp2_with fail;go_ret;exact ⟨rfl,HN.out⟩
def rR (r:RM):Array Value:=#[.int .i64 r.r.kind,.int .i64 r.r.start,.slice r.A r.r.rests.length r.ca,.slice r.C r.r.vis.length r.cc]
def iQ (m:IM):Array Value:=#[.slice m.pA m.places.length m.pc,.slice m.aA m.arcs.length m.ac,.slice m.tA m.types.length m.tc,.slice m.oA m.ords.length m.oc,.slice m.xA m.apart.length m.xc,.slice m.bA m.before.length m.bc]
theorem iq (m:IM):#[Value.slice m.pA m.places.length m.pc,.slice m.aA m.arcs.length m.ac,.slice m.tA m.types.length m.tc,.slice m.oA m.ords.length m.oc,.slice m.xA m.apart.length m.xc,.slice m.bA m.before.length m.bc]=iQ m:=rfl
theorem rq (r:RM):#[Value.int .i64 r.r.kind,.int .i64 r.r.start,.slice r.A r.r.rests.length r.ca,.slice r.C r.r.vis.length r.cc]=rR r:=rfl
def TZ:Ab:=⟨⟨none,0,[],none,0,[],none,0,[],none,0,[],none,0,[],none,0,[]⟩,⟨none,0,⟨[],0,0,0,[],0,0,0,0,0,0,0,0,0⟩⟩,⟨none,0,none,0,⟨0,0,[],[]⟩⟩,none,0,[]⟩
theorem built_trip (a0 a1 a2 a3 a4 a5 a6 a7 a8 a9 b0 b1 b2 b3 b4 b5 b6 b7 b8 b9 c0 c1 c2 c3:Value):Tryz.prog.built 84 [(0,.agg #[a0,a1,a2,a3,a4,a5]),(1,.agg #[a6,a7,a8,a9,b0,b1,b2,b3,b4,b5,b6,b7,b8,b9]),(2,.agg #[c0,c1,c2,c3])]=some #[a0,a1,a2,a3,a4,a5,a6,a7,a8,a9,b0,b1,b2,b3,b4,b5,b6,b7,b8,b9,c0,c1,c2,c3,.slice none 0 0]:=by
 kernel_rfl
theorem built_tripQ (m:IM) (t:Ty) (r:RM):Tryz.prog.built 84 [(0,.agg (iQ m)),(1,.agg t.cells.toArray),(2,.agg (rR r))]=some (TR ⟨m,t,r,none,0,[]⟩) :=
 built_trip (.slice m.pA m.places.length m.pc) (.slice m.aA m.arcs.length m.ac) (.slice m.tA m.types.length m.tc) (.slice m.oA m.ords.length m.oc) (.slice m.xA m.apart.length m.xc) (.slice m.bA m.before.length m.bc) (.string (B t.t.name)) (.int .i64 t.t.count) (.int .i64 t.t.frm) (.int .i64 t.t.tgt) (.slice t.A t.t.cap.length t.ca) (.int .i64 t.t.skills) (.int .i64 t.t.prof) (.int .i64 t.t.opn) (.int .i64 t.t.cls) (.int .i64 t.t.drive) (.int .i64 t.t.rest) (.int .i64 t.t.fixed) (.int .i64 t.t.mile) (.int .i64 t.t.tick) (.int .i64 r.r.kind) (.int .i64 r.r.start) (.slice r.A r.r.rests.length r.ca) (.slice r.C r.r.vis.length r.cc)
def PE (m:IM) (r:RM) (w:World) (e:Ending) (w':World):Prop:=∃ (q:Ab) (ok:Bool),e=.returned (.tuple #[tr q,.bool ok])/\Below w.heap.size w w'/\(ok=true->TT w' q/\q.m=m/\q.r=r)/\(ok=false->∀ p,¬ PlanIs m.v r.r p)
theorem PE.no {m:IM} {r:RM} {w w':World} (h:∀ p,¬ PlanIs m.v r.r p) (hb:Below w.heap.size w w'):PE m r w (.returned (.tuple #[.agg #[.slice none 0 0,.slice none 0 0,.slice none 0 0,.slice none 0 0,.slice none 0 0,.slice none 0 0,.string (B []),.int .i64 0,.int .i64 0,.int .i64 0,.slice none 0 0,.int .i64 0,.int .i64 0,.int .i64 0,.int .i64 0,.int .i64 0,.int .i64 0,.int .i64 0,.int .i64 0,.int .i64 0,.int .i64 0,.int .i64 0,.slice none 0 0,.slice none 0 0,.slice none 0 0],.bool false])) w':=⟨TZ,false,rfl,hb,fun h=>Bool.noConfusion h,fun _=>h⟩
theorem PE.yes {m:IM} {r:RM} {w w':World} {q:Ab} (hq:TT w' q) (h1:q.m=m) (h2:q.r=r) (hb:Below w.heap.size w w'):PE m r w (.returned (.tuple #[tr q,.bool true])) w':=⟨q,true,rfl,hb,fun _=>⟨hq,h1,h2⟩,fun h=>Bool.noConfusion h⟩
def fitR (m:IM) (r:RV):Bool:=!(decide (r.kind<0) || decide ((m.types.length:Int)<=r.kind) || decide (r.start<0) || decide (4096<r.start) || decide (20<r.vis.length))
theorem fitR_no {m:IM} {r:RV} (h:fitR m r=false) (p:Tr):¬ PlanIs m.v r p:=by
 intro hp;unfold fitR at h;rw [Bool.not_eq_false'] at h;simp only [Bool.or_eq_true,decide_eq_true_eq] at h;have h1:=hp.k0;have h2:=hp.start;have h3:=hp.n;have h4:=(List.getElem?_eq_some_iff.1 hp.t).1;have h5:m.v.types.length=m.types.length:=by show (m.types.map _).length=_;rw [List.length_map]
 omega
theorem fitR_yes {m:IM} {r:RV} (h:fitR m r=true):0<=r.kind/\r.kind<(m.types.length:Int)/\0<=r.start/\r.start<=4096/\r.vis.length<=20:=by
 unfold fitR at h;rw [Bool.not_eq_true'] at h;simp only [Bool.or_eq_false_iff,decide_eq_false_iff_not] at h;omega
theorem Bq:134≠84:=by decide
theorem stp_ins:134≠30:=by decide
theorem Bv (x:IV):∀ (vs:List (Int × Bool)) (k:Nat) (hk:k<vs.length),sO x vs[k]=none->SO x vs=none
 |[],k,hk,_=>absurd hk (by simp)
 |v :: vs,0,_,h=>by
  have h:sO x v=none:=h;rw [SO,h]
 |v :: vs,k+1,hk,h=>by
  rw [SO,Bv x vs k (by simpa using hk) h];cases sO x v <;> rfl
theorem dplan_any (m:IM) (r:RM) (w:World) (hm:IA w m) (hok:IK m.v) (hr:Rt w r) (hvl:r.r.vis.length<=8) :
  Calls Tryz.prog 24 #[iA m,ro r] w (PE m r w):=by
 obtain ⟨k1,k2,k3,k4⟩:=Av w (.cells (iQ m) 30) (.cells (rR r) 34) (.cells (TR TZ) 84);have HB:=hid k4;have HK1:=hid k1;have HK2:=hid k2;have HK3:=hid k3;have HM:=hid hm;have HO:=hid hok;have HR:=hid hr;have hnt:m.types.length<=2:=by have:=hok.nt;unfold IM.v at this;simpa using this
 have hno:m.ords.length<=3:=by have:=hok.no;unfold IM.v at this;simpa using this
 clear hm hok hr k1 k2 k3 k4;go_enter Tryz.func24,Tryz.ntmps24;(try simp only [Bm]);go_upto_region 1 with fail
 rw [show ((w.alloc (.cells #[.slice m.pA m.places.length m.pc,.slice m.aA m.arcs.length m.ac,.slice m.tA m.types.length m.tc,.slice m.oA m.ords.length m.oc,.slice m.xA m.apart.length m.xc,.slice m.bA m.before.length m.bc] 30)).alloc (.cells #[.int .i64 r.r.kind,.int .i64 r.r.start,.slice r.A r.r.rests.length r.ca,.slice r.C r.r.vis.length r.cc] 34)).alloc (.cells #[.slice none 0 0,.slice none 0 0,.slice none 0 0,.slice none 0 0,.slice none 0 0,.slice none 0 0,.string (B []),.int .i64 0,.int .i64 0,.int .i64 0,.slice none 0 0,.int .i64 0,.int .i64 0,.int .i64 0,.int .i64 0,.int .i64 0,.int .i64 0,.int .i64 0,.int .i64 0,.int .i64 0,.int .i64 0,.int .i64 0,.slice none 0 0,.slice none 0 0,.slice none 0 0] 84)=((w.alloc (.cells (iQ m) 30)).alloc (.cells (rR r) 34)).alloc (.cells (TR TZ) 84) from rfl]
 generalize ((w.alloc (.cells (iQ m) 30)).alloc (.cells (rR r) 34)).alloc (.cells (TR TZ) 84)=w3 at *;obtain ⟨g1,hg1⟩:∃ g1,g1=w.heap.size:=⟨_,rfl⟩
 obtain ⟨g2,hg2⟩:∃ g2,g2=w.heap.size+1:=⟨_,rfl⟩
 obtain ⟨g3,hg3⟩:∃ g3,g3=w.heap.size+1+1:=⟨_,rfl⟩
 rw [<- hg3] at HK3;rw [<- hg3,<- hg2,<- hg1];rw [<- hg2] at HK2;rw [<- hg1] at HK1;have HG:=hid (show w.heap.size<=g3 by omega);clear hg1 hg2 hg3;go_cut [37] (fun s wx=>s=.bool (!fitR m r.r)/\wx=w3)
 case first =>
  as_aux_lemma =>
   have i2:=CX HK1.out 2 (.slice m.tA m.types.length m.tc) rfl;have r0:=CX HK2.out 0 (.int .i64 r.r.kind) rfl;have r1:=CX HK2.out 1 (.int .i64 r.r.start) rfl;have r3:=CX HK2.out 3 (.slice r.C r.r.vis.length r.cc) rfl
   have HF:=hid (show (!fitR m r.r)=(decide (r.r.kind<0) || decide ((m.types.length:Int)<=r.r.kind) || decide (r.r.start<0) || decide (4096<r.r.start) || decide (20<r.r.vis.length)) by unfold fitR;rw [Bool.not_not]);generalize fitR m r.r=ft at *;have hv20:¬ (20:Int)<(r.r.vis.length:Int):=by omega
   by_cases h1:r.r.kind<0
   ·have HE:=hid (show (!ft)=true by rw [HF.out,decide_eq_true h1];rfl)
    go_wp2_with fail;go_meet;exact ⟨by rw [HE.out],rfl⟩
   ·by_cases h2:(m.types.length:Int)<=r.r.kind
    ·have HE:=hid (show (!ft)=true by rw [HF.out,decide_eq_true h2];simp)
     go_wp2_with fail;go_meet;exact ⟨by rw [HE.out],rfl⟩
    ·by_cases h3:r.r.start<0
     ·have HE:=hid (show (!ft)=true by rw [HF.out,decide_eq_true h3];simp)
      go_wp2_with fail;go_meet;exact ⟨by rw [HE.out],rfl⟩
     ·by_cases h4:4096<r.r.start
      ·have HE:=hid (show (!ft)=true by rw [HF.out,decide_eq_true h4];simp)
       go_wp2_with fail;go_meet;exact ⟨by rw [HE.out],rfl⟩
      ·have HE:=hid (show (!ft)=false by rw [HF.out,decide_eq_false h1,decide_eq_false h2,decide_eq_false h3,decide_eq_false h4,decide_eq_false (show ¬ 20<r.r.vis.length by omega)];rfl)
       go_wp2_with fail;go_meet;exact ⟨by rw [HE.out],rfl⟩
 case rest =>
  obtain ⟨rfl,hwx⟩:=hcut;obtain rfl:=hwx.symm
  cases hf:fitR m r.r with
  |false =>
   have HF:=hid (fitR_no hf);clear hf;have HS:=hid (rS (TR TZ) HK3.out HB.out HG.out);go_wp2_with (refine sw (TR TZ) HK3.out ?_)
   refine bodyPost_ret (rr rfl (ld_trip HS.out.1) rfl rfl) rfl ?_;exact PE.no HF.out HS.out.2
  |true =>
   obtain ⟨f1,f2,f3,f4,f5⟩:=fitR_yes hf;clear hf;obtain ⟨kd,hkd⟩:∃ kd:Nat,r.r.kind=(kd:Int):=⟨r.r.kind.toNat,by omega⟩
   have hkl:kd<m.types.length:=by omega
   have HKD:=hid hkd;have HF12:=hid (And.intro f3 f4);obtain ⟨gt,ot,hA1,hgt,hx1⟩:=eP Ty.cells_len (by decide) HM.out.types (by omega);have HX:=hid (fun j u h=>(HB.out.cell (p:=⟨gt,ot+kd*14+j,none⟩) hgt).trans (hx1 kd hkl j u h));have HTM:=hid (show ∃ t,m.types[kd]=t from ⟨_,rfl⟩);obtain ⟨t,ht⟩:=HTM.out;rw [ht] at HX;have HTT:=hid ht
   have hgt3:gt<w3.heap.size:=Nat.lt_of_lt_of_le hgt HB.out.size;have hg13:=lh HK1.out;have hg23:=lh HK2.out;have x0:=HX.out 0 _ rfl;have x1:=HX.out 1 _ rfl;have x2:=HX.out 2 _ rfl;have x3:=HX.out 3 _ rfl;have x4:=HX.out 4 _ rfl;have x5:=HX.out 5 _ rfl;have x6:=HX.out 6 _ rfl;have x7:=HX.out 7 _ rfl;have x8:=HX.out 8 _ rfl;have x9:=HX.out 9 _ rfl;have x10:=HX.out 10 _ rfl
   have x11:=HX.out 11 _ rfl;have x12:=HX.out 12 _ rfl;have x13:=HX.out 13 _ rfl;rw [Nat.add_zero] at x0;have i0:=CX HK1.out 0 (.slice m.pA m.places.length m.pc) rfl;have i1:=CX HK1.out 1 (.slice m.aA m.arcs.length m.ac) rfl;have i2:=CX HK1.out 2 (.slice m.tA m.types.length m.tc) rfl;have i3:=CX HK1.out 3 (.slice m.oA m.ords.length m.oc) rfl
   have i4:=CX HK1.out 4 (.slice m.xA m.apart.length m.xc) rfl;have i5:=CX HK1.out 5 (.slice m.bA m.before.length m.bc) rfl;have r0:=CX HK2.out 0 (.int .i64 r.r.kind) rfl;have r1:=CX HK2.out 1 (.int .i64 r.r.start) rfl;have r2:=CX HK2.out 2 (.slice r.A r.r.rests.length r.ca) rfl;have r3:=CX HK2.out 3 (.slice r.C r.r.vis.length r.cc) rfl;rw [hA1] at i2;rw [hkd] at r0
   have hkl1:(kd:Int)<(m.types.length:Int):=by omega
   obtain ⟨q0,hq0⟩:∃ q:Ab,q=⟨m,t,r,none,0,[]⟩:=⟨_,rfl⟩
   have HQ0:=hid hq0;clear hx1 ht HTM f1 f2 f3 f4 f5 hq0 x0 x1 x2 x3 x4 x5 x6 x7 x8 x9 x10 x11 x12 x13 i0 i1 i2 i3 i4 i5 r0 r1 r2 r3;have HA1:=hid hA1;clear hkd hA1;go_upto_region 3 with fail;go_cut [6] (fun s wx=>∃ gp:Nat,s=.pointer (some ⟨gp,0,none⟩)/\wx.heap[gp]? = some (.cells (TR ⟨m,t,r,none,0,[]⟩) 84)/\Below w3.heap.size w3 wx/\w.heap.size<=gp/\g1≠gp/\g2≠gp/\g3≠gp)
   case first =>
    as_aux_lemma =>
     have hg33:=lh HK3.out
     have HKP:=hid (show ∀ w' w2,(w'.heap[g1]? = some (.cells (iQ m) 30)/\w'.heap[g2]? = some (.cells (rR r) 34)/\(∀ j u,t.cells[j]? = some u->w'.cell? ⟨gt,ot+kd*14+j,none⟩=some u)/\Below w3.heap.size w3 w')->Below w'.heap.size w' w2->(w2.heap[g1]? = some (.cells (iQ m) 30)/\w2.heap[g2]? = some (.cells (rR r) 34)/\(∀ j u,t.cells[j]? = some u->w2.cell? ⟨gt,ot+kd*14+j,none⟩=some u)/\Below w3.heap.size w3 w2) from fun w' w2 ⟨h0,h1,h2,h3⟩ hb=>⟨rK h0 hb,rK h1 hb,fun j u h=>ch h3 hb hgt3 (h2 j u h),bL h3 hb⟩)
     have hS0:(fun w'=>w'.heap[g1]? = some (.cells (iQ m) 30)/\w'.heap[g2]? = some (.cells (rR r) 34)/\(∀ j u,t.cells[j]? = some u->w'.cell? ⟨gt,ot+kd*14+j,none⟩=some u)/\Below w3.heap.size w3 w') w3.drew:=⟨HK1.out,HK2.out,HX.out,(Below.refl _ w3).drew⟩
     refine wp_region_held_drew (S:=fun w'=>w'.heap[g1]? = some (.cells (iQ m) 30)/\w'.heap[g2]? = some (.cells (rR r) 34)/\(∀ j u,t.cells[j]? = some u->w'.cell? ⟨gt,ot+kd*14+j,none⟩=some u)/\Below w3.heap.size w3 w') (by kernel_rfl) hS0 (fun hHeld=>?_);refine tkr 0 Tryz.underlying30 (fun w hSw=>hSw.1) ?_;refine td 1 ?_;(try simp only [Act.put,P1,pu,P3]);refine Tv 2 (v:=?_) ?_ ?_;rotate_left
     ·(intro w hSw;have q:=CX hSw.1 2 (.slice m.tA m.types.length m.tc) rfl;rw [HA1.out] at q;go_simp;(try with_reducible rfl))
     refine td 3 ?_;(try simp only [Act.put,P1,pu,P3]);refine Tv 4 (v:=?_) ?_ ?_;rotate_left
     ·(intro w hSw;have q:=CX hSw.2.1 0 (.int .i64 r.r.kind) rfl;rw [HKD.out] at q;go_simp;(try with_reducible rfl))
     refine td 5 ?_;refine tkl 6 (t.cells) Tryz.underlying81 (fun w hSw=>hSw.2.2.1) ?_;refine tkr 7 Tryz.underlying34 (fun w hSw=>hSw.2.1) ?_;(try simp only [Act.put,P1,pu,P3]);refine Tv 8 (v:=.agg (TR ⟨m,t,r,none,0,[]⟩)) ?_ ?_
     ·(intro w hSw;exact yl_build 84 _ rfl (TR ⟨m,t,r,none,0,[]⟩) (by simp only [List.map_toArray,List.map_cons,List.map_nil];exact built_tripQ m t r))
     (try simp only [Act.put,P1,pu,P3]);refine one 9 (fun K hK=>?_);refine Wg (by rfl) ?_;refine Wa 84 rfl (TR TZ) (by kernel_rfl) ?_;refine hK.out _ _ (HKP.out _ _ hHeld (Na _ _).1) (fun hHeld=>?_);clear hK K;(try simp only [Act.put,P1,pu,P3]);refine one 10 (fun K hK=>?_);refine Wg (by rfl) ?_
     refine wp_store_row 84 _ _ rfl w3.heap.size (TR ⟨m,t,r,none,0,[]⟩) rfl rfl 84 _ (Na _ _).2 (by kernel_rfl) rfl (by kernel_rfl) ?_;refine hK.out _ _ (HKP.out _ _ hS0 (nS _ _ _ _).2) (fun hHeld=>?_);clear hK K;refine wpAnyH_done (by kernel_rfl) ?_ _;go_wp2_with fail;go_meet
     exact ⟨w3.heap.size,rfl,(nS w3.drew _ _ _).1,bL (Below.refl _ w3).drew (nS w3.drew _ _ _).2,HB.out.size,by omega,by omega,by omega⟩
   case rest =>
    obtain ⟨gp,rfl,hgp,hbx,hwg,hne1,hne2,hne3⟩:=hcut;have HP:=hid hgp;have HBX:=hid (bL HB.out hbx);have HR1:=hid (rK HK1.out hbx);have HR2:=hid (rK HK2.out hbx);have HR3:=hid (rK HK3.out hbx);have HWG:=hid hwg;have HNE:=hid (And.intro hne1 hne3);have hr3:=CX HR2.out 3 (.slice r.C r.r.vis.length r.cc) rfl;have hvc:=HR.out.vl
    unfold maxLen at hvc;clear hgp hbx hwg hne1 hne2 hne3 HB HK1 HK2 HK3 HX;go_wp2_with fail;clear hr3 HR2
    go_loopw [5,10,51] (fun _ _ j wr=>∃ (k:Nat) (A:Option Addr) (c:Nat) (l:List St),k<=r.r.vis.length/\j=.int .i64 k/\l.length=k/\SO m.v (r.r.vis.take k)=some l/\OR wr w.heap.size 134 4 A l.length c (l.flatMap Bw)/\wr.heap[gp]? = some (.cells (TR ⟨m,t,r,A,c,l⟩) 84)/\wr.heap[g1]? = some (.cells (iQ m) 30)/\wr.heap[g3]? = some (.cells (TR TZ) 84)/\Below w.heap.size w wr) (fun _ _ j _=>r.r.vis.length - (intOf j).toNat)
    case atStart=>exact ⟨0,none,0,[],Nat.zero_le _,rfl,rfl,by simp [SO],OR.nil _ _ _ _,HP.out,HR1.out,HR3.out,HBX.out⟩
    case round =>
     clear HP HR1 HR3 HBX;obtain ⟨k,A,c,l,hk,rfl,hlk,hst,hown,hrp,hr1,hr3,hbel⟩:=hrel;have HLK:=hid hlk;have HST:=hid hst;have HO2:=hid hown;have HP:=hid hrp;have HR1:=hid hr1;have HR3:=hid hr3;have HBX:=hid hbel;have hll:l.length<=8:=by omega
     clear hlk hst hown hrp hr1 hr3 hbel;by_cases hlt:k<r.r.vis.length
     ·have hlt1:(k:Int)<(r.r.vis.length:Int):=by omega
      obtain ⟨gv,ov,hA2,hgv,hx2⟩:=eP vC (by decide) HR.out.vis (by omega);have x0:=(HBX.out.cell (p:=⟨gv,ov+k*2+0,none⟩) hgv).trans (hx2 k hlt 0 _ rfl);have x1:=(HBX.out.cell (p:=⟨gv,ov+k*2+1,none⟩) hgv).trans (hx2 k hlt 1 _ rfl);have hvf:=HR.out.visF _ (List.getElem_mem hlt);have HVV:=hid (show ∃ v,r.r.vis[k]=v from ⟨_,rfl⟩);obtain ⟨v,hv⟩:=HVV.out;rw [hv] at x0 x1 hvf
      rw [Nat.add_zero] at x0;have HV:=hid hv;have HTK:=hid (show r.r.vis.take (k+1)=r.r.vis.take k ++ [v] by rw [List.take_succ_eq_append_getElem hlt,hv]);obtain ⟨n4,p4⟩:=Na wr (.cells #[.int .i64 v.1,.bool v.2] 92);rw [hA2];clear hx2 hv HVV hA2;go_upto_region 7 with fail;clear x0 x1;generalize wr.alloc (.cells #[.int .i64 v.1,.bool v.2] 92)=w4 at *
      have HB4:=hid (bL HBX.out n4);have HO4:=hid (HO2.out.below n4);have HP4:=hid (rK HP.out n4);have HR14:=hid (rK HR1.out n4);have HR34:=hid (rK HR3.out n4);obtain ⟨c0,c1⟩:=C2 p4;have i3:=CX HR14.out 3 (.slice m.oA m.ords.length m.oc) rfl;have HSE:=hid (oy m v w4 (HM.out.below HB4.out).ords HM.out.ol hno hvf)
      clear n4 p4 HBX HO2 HP HR1 HR3;go_wp2_with fail;refine HSE.out.mono ?_;rintro e w5 ⟨he,hb5⟩;clear c0 c1 i3 HSE;have HB5:=hid (bL HB4.out hb5);have HO5:=hid (HO4.out.below hb5);have HP5:=hid (rK HP4.out hb5);have HR15:=hid (rK HR14.out hb5);have HR35:=hid (rK HR34.out hb5);clear hb5 HB4 HO4 HP4 HR14 HR34
      cases hso:sO m.v v with
      |none =>
       rw [hso] at he;obtain ⟨kk,hk0,rfl⟩:=he;have hkb:(kk != 0)=true:=by simpa using hk0
       have HNO:=hid (show SO m.v r.r.vis=none from Bv m.v _ k hlt (by rw [HV.out];exact hso));clear hso hk0;obtain ⟨n6,p6⟩:=Na w5 (.cells (SR S0) 134);have HB6:=hid (bL HB5.out n6);have HR36:=hid (rK HR35.out n6);clear n6 p6;go_upto_region 8 with fail
       rw [show w5.alloc (.cells #[.int .i64 0,.int .i64 0,.int .i64 0,.int .i64 0] 134)=w5.alloc (.cells (SR S0) 134) from rfl];generalize w5.alloc (.cells (SR S0) 134)=w6 at *;have HS:=hid (rS (TR TZ) HR36.out HB6.out HG.out);go_wp2_with (refine sw (TR TZ) HR36.out ?_)
       refine bodyPost_ret (rr rfl (ld_trip HS.out.1) rfl rfl) rfl ?_;exact PE.no (fun p hp=>by have:=hp.stops;rw [HNO.out] at this;cases this) HS.out.2
      |some s =>
       rw [hso] at he;subst he;have hpl:=(so HO.out hso).2;have hlp:¬ s.place<0:=by omega
       have HST2:=hid (show SO m.v (r.r.vis.take (k+1))=some (l ++ [s]) by rw [HTK.out];exact Bu m.v _ v l s HST.out hso);clear hso hpl;obtain ⟨n6,p6⟩:=Na w5 (.cells (SR s) 134);have HB6:=hid (bL HB5.out n6);have HO6:=hid (HO5.out.below n6);have HP6:=hid (rK HP5.out n6);have HR16:=hid (rK HR15.out n6)
       have HR36:=hid (rK HR35.out n6);clear n6 HB5 HO5 HP5 HR15 HR35;go_upto_region 8 with fail;rw [show w5.alloc (.cells #[.int .i64 s.place,.int .i64 s.opn,.int .i64 s.cls,.int .i64 s.serv] 134)=w5.alloc (.cells (SR s) 134) from rfl];generalize w5.alloc (.cells (SR s) 134)=w6 at *;obtain ⟨s0,s1,s2,s3⟩:=C4 p6;have q24:=CX HP6.out 24 (.slice A l.length c) rfl
       go_upto_region 10 with fail;clear p6
       go_wp2_with (at_builtin;refine wk el_stp rfl _ _ rfl w.heap.size A l.length c (l.flatMap Bw) w6 #[.int .i64 s.place,.int .i64 s.opn,.int .i64 s.cls,.int .i64 s.serv] rfl HO6.out rfl rfl (by intro u hu;simp at hu;rcases hu with rfl | rfl | rfl | rfl <;> rfl) (by unfold maxLen;omega) (by omega) HB6.out.size ?_;intro A' c' w7 hown7 hb7 hkp7;have hrp7:=hkp7.row HP6.out (HO6.out.far HP6.out Bq);have y24:=CX hrp7 24 (.slice A l.length c) rfl;have z24:=fz hrp7 24)
       have hk1:(k:Int)+1=((k+1:Nat):Int):=by omega
       have HK7:=hid ((KpB.refl gp w7).store 24 (.slice A' (l.length+1) c'));have hlen:(l ++ [s]).length=l.length+1:=by simp
       go_roundw
       case rel =>
        refine ⟨k+1,A',c',l ++ [s],by omega,by go_num,by rw [hlen,HLK.out],HST2.out,?_,?_,?_,?_,?_⟩
        ·rw [hlen,<- Fs]
         exact OR.keptB hown7 HK7.out hrp7 Bq
        ·rw [Hp hrp7]
         show some (Obj.cells _ _ _)=some (Obj.cells (TR ⟨m,t,r,A',c',l ++ [s]⟩) _ _)
         unfold TR;rw [hlen];rfl
        ·exact HK7.out.row (hkp7.row HR16.out (HO6.out.far HR16.out stp_ins)) HNE.out.1
        ·exact HK7.out.row (hkp7.row HR36.out (HO6.out.far HR36.out Bq)) HNE.out.2
        ·exact (HB6.out.trans hb7).setCell HWG.out _
       case measure=>simp [intOf];omega
     ·have hlt1:¬ (k:Int)<(r.r.vis.length:Int):=by omega
      have HKE:=hid (show k=r.r.vis.length by omega);have HS:=hid (rS (TR ⟨m,t,r,A,c,l⟩) HR3.out HBX.out HG.out);go_wp2_with (first | (refine lr HP.out Tryz.underlying84 ?_) | (refine sw (TR ⟨m,t,r,A,c,l⟩) HR3.out ?_))
      refine bodyPost_ret (rr rfl (ld_trip HS.out.1) rfl rfl) rfl ?_;have hb:=HS.out.2;refine PE.yes (q:=⟨m,t,r,A,c,l⟩) ⟨HM.out.below hb,(HM.out.typeE t (by rw [<- HTT.out];exact List.getElem_mem hkl)).below hb,HR.out.below hb,?_,HO2.out.cap,⟨rfl,rfl,by rw [HKD.out];omega,?_,?_,HF12.out,by show r.r.vis.length<=20;omega⟩,HO.out⟩ rfl rfl hb
      ·intro hh
       exact (OR.keep HO2.out (w':=_) (fun b hb2=>setRow_other _ _ _ _ (fun e=>(HO2.out.not HR3.out Bq) (by rw [hb2,e])))).cells hh
      ·show (m.types.map (·.t))[r.r.kind.toNat]? = some t.t
       rw [HKD.out,Int.toNat_natCast,List.getElem?_map,List.getElem?_eq_getElem hkl,HTT.out];rfl
      ·have:=HST.out
       rw [HKE.out,List.take_length] at this;exact this
end Go.Proofs.YtjcekdiocliddaaGreatDoor

/- whole: Neg, Abs, signed, sum, Add, Sub, Mul. -/
import Derived.Test.YtjcekdiocliddaaGreatDoorG10
import Derived.Test.YtjcekdiocliddaaGreatDoorG9
import Derived.StillTailTactics
import Derived.Deep.RegionHeld3
import Derived.Test.YtjcekdiocliddaaGreatDoorG5
import Derived.Deep.RegionWith
import Derived.Deep.DeepCutAuto
namespace Go.Proofs.YtjcekdiocliddaaGreatDoor
open Lib (hid)
open Go.RowKit Num
set_option linter.unusedVariables false
attribute [local go_sem] BS Bg Bt Bm Be Ba
attribute [local go_sem high] rm
theorem errL_two (a b:Sr):errL [a,b]=eI a b:=by
 unfold errL eI;simp only [List.all_cons,List.all_nil,Bool.and_true,Bool.and_eq_true,decide_eq_true_eq]
theorem ct (w:World) (a b:Sr):Cs (w.alloc (.cells #[.string (B a),.string (B b)] 9)) (some ⟨w.heap.size,0,none⟩) (strs [a,b]) :=
 (OS.lit w 9 #[.string (B a),.string (B b)] w.heap.size 2 (Nat.le_refl _) rfl (by unfold maxLen;omega)).cells
theorem bd {B:Nat} {a w:World} (h:Below B a w):Below B a w.drew:=⟨h.os,h.tape,h.output,h.size,h.block⟩
theorem mL {n:Nat} (h:n<=1000000000):n<=maxLen:=by unfold maxLen;omega
theorem ab (w:World) (o:Obj):Below w.heap.size w (w.alloc o):=(Below.refl _ _).alloc (Nat.le_refl _) _
theorem Pa (m:Bool) (n:Nat) (w:World) :
  Calls Tryz.prog 157 #[.agg #[.bool m,.string (B (Ax n))],.int .i64 (RE n)] w fun e w'=>e=.returned (.tuple #[.string (B (RS (sg m n))),.int .i64 (rE (sg m n))])/\Below w.heap.size w w':=by
 by_cases h:(dec n).length<=4096
 ·have HR:=hid (show Ax n=dec n/\RE n=0 from ⟨if_pos h,if_pos h⟩)
  have HI:=hid (show RS (sg m n)=dI (sg m n)/\rE (sg m n)=0 from ⟨by rw [RS,Cl,if_pos h],by rw [rE,Cl,if_pos h]⟩);have HT:=hid (fun w=>pY m n w (by omega));have hal:=ab w (.cells #[.bool m,.string (B (dec n))] 212);rw [HR.out.1,HR.out.2];clear h;go_enter Tryz.func157,Tryz.ntmps157;simp only [Bm];go_wp2_with fail;refine (HT.out _).mono ?_
  rintro e w1 ⟨rfl,hb1⟩;go_wp2_with fail;go_ret2;exact ⟨Au HI.out.1.symm HI.out.2.symm,hal.trans (hb1.mono hal.size)⟩
 ·have HR:=hid (show Ax n=[]/\RE n=4 from ⟨if_neg h,if_neg h⟩)
  have HI:=hid (show RS (sg m n)=[]/\rE (sg m n)=4 from ⟨by rw [RS,Cl,if_neg h],by rw [rE,Cl,if_neg h]⟩);rw [HR.out.1,HR.out.2];clear h;go_enter Tryz.func157,Tryz.ntmps157;simp only [Bm];go_wp2_with fail;go_ret2;exact ⟨Au HI.out.1.symm HI.out.2.symm,ab _ _⟩
theorem addS_dec' {p q:Nat} (hp:(dec p).length<=4096) (hq:(dec q).length<=4096):addS (dec p) (dec q)=Ax (p+q)/\addE (dec p) (dec q)=RE (p+q):=by
 unfold addS addE;rw [if_pos (ed hp hq),if_pos (ed hp hq),vD,vD];exact ⟨rfl,rfl⟩
theorem sU {p q:Nat} (hp:(dec p).length<=4096) (hq:(dec q).length<=4096) (h:q<=p):subS (dec p) (dec q)=Ax (p - q)/\subE (dec p) (dec q)=RE (p - q):=by
 unfold subS subE;rw [if_pos (ed hp hq),if_pos (ed hp hq),vD,vD,if_neg (by omega),if_neg (by omega)];exact ⟨rfl,rfl⟩
theorem mulS_dec' {p q:Nat} (hp:(dec p).length<=4096) (hq:(dec q).length<=4096):mulS (dec p) (dec q)=Ax (p*q)/\mulE (dec p) (dec q)=RE (p*q):=by
 unfold mulS mulE;rw [if_pos (ed hp hq),if_pos (ed hp hq),vD,vD];exact ⟨rfl,rfl⟩
set_option maxHeartbeats 1000000 in
theorem psum_any (m n:Bool) (x y:Nat) (w:World) (hx:(dec x).length<=4096) (hy:(dec y).length<=4096) (ht:Tb w) :
  Calls Tryz.prog 109 #[.agg #[.bool m,.string (B (dec x))],.agg #[.bool n,.string (B (dec y))]] w fun e w'=>e=.returned (.tuple #[.string (B (RS (sg m x+sg n y))),.int .i64 (rE (sg m x+sg n y))])/\Below w.heap.size w w':=by
 have hal:Below w.heap.size w ((w.alloc (.cells #[.bool m,.string (B (dec x))] 212)).alloc (.cells #[.bool n,.string (B (dec y))] 212)):=(ab w _).alloc (by simp) _;by_cases hmn:m=n
 ·subst hmn
  have HR:=hid (sum_same m x y);have HA:=hid (fun w ht=>add_any (dec x) (dec y) w (mL (by omega)) (mL (by omega)) ht);have HS:=hid (addS_dec' hx hy);have HG:=hid (fun w=>Pa m (x+y) w);have hb:(m == m)=true:=by simp
  go_enter Tryz.func109,Tryz.ntmps109;simp only [Bm];go_wp2_with fail;refine (HA.out _ (ht.below hal)).mono ?_;rw [HS.out.1,HS.out.2];rintro e w1 ⟨rfl,hb1⟩;have hbb:=hal.trans (hb1.mono hal.size);have c0:w1.cell? ⟨w.heap.size,0,none⟩=some (.bool m):=(hb1.cell (p:=⟨w.heap.size,0,none⟩) (by simp;omega)).trans (by go_simp);go_wp2_with fail;refine (HG.out w1).mono ?_;rintro e w2 ⟨rfl,hb2⟩
  go_wp2_with fail;go_ret2;exact ⟨Au (by rw [HR.out]) (by rw [HR.out]),hbb.trans (hb2.mono hbb.size)⟩
 ·have HC:=hid (fun w=>pcompare_any x y w (by omega) (by omega))
  have hb:(m == n)=false:=by simpa using hmn
  by_cases hlt:x<y
  ·have HR:=hid (sum_less (m:=m) (n:=n) hmn hlt)
   have HA:=hid (fun w ht=>sub_any (dec y) (dec x) w (mL (by omega)) (mL (by omega)) ht);have HS:=hid (sU hy hx (Nat.le_of_lt hlt));have HG:=hid (fun w=>Pa n (y - x) w);have HO:=hid (ordI_lt hlt);clear hmn hlt;go_enter Tryz.func109,Tryz.ntmps109;simp only [Bm];go_wp2_with fail;refine (HC.out _).mono ?_;rw [HO.out]
   rintro e w1 ⟨rfl,h⟩;obtain rfl:=h.symm;go_wp2_with fail;have hal2:Below w.heap.size w ((w.alloc (.cells #[.bool n,.string (B (dec y))] 212)).alloc (.cells #[.bool m,.string (B (dec x))] 212)):=(ab w _).alloc (by simp) _;refine (HA.out _ (ht.below hal2)).mono ?_;rw [HS.out.1,HS.out.2];rintro e w1 ⟨rfl,hb1⟩;have hbb:=hal2.trans (hb1.mono hal2.size)
   have c0:w1.cell? ⟨w.heap.size,0,none⟩=some (.bool n):=(hb1.cell (p:=⟨w.heap.size,0,none⟩) (by simp;omega)).trans (by go_simp);go_wp2_with fail;refine (HG.out w1).mono ?_;rintro e w2 ⟨rfl,hb2⟩;go_wp2_with fail;go_ret2;exact ⟨Au (by rw [HR.out]) (by rw [HR.out]),hbb.trans (hb2.mono hbb.size)⟩
  ·have HR:=hid (sum_more (m:=m) (n:=n) hmn (show y<=x by omega))
   have HA:=hid (fun w ht=>sub_any (dec x) (dec y) w (mL (by omega)) (mL (by omega)) ht);have HS:=hid (sU hx hy (show y<=x by omega));have HG:=hid (fun w=>Pa m (x - y) w)
   obtain ⟨o,ho,hop⟩:∃ o,OI x y=o/\¬ o<0:=by
    refine ⟨_,rfl,?_⟩;unfold OI;rw [if_neg (by omega)];split <;> omega
   have HO:=hid ho;clear hmn hlt ho;go_enter Tryz.func109,Tryz.ntmps109;simp only [Bm];go_wp2_with fail;refine (HC.out _).mono ?_;rw [HO.out];rintro e w1 ⟨rfl,h⟩;obtain rfl:=h.symm;go_wp2_with fail;refine (HA.out _ (ht.below hal)).mono ?_;rw [HS.out.1,HS.out.2];rintro e w1 ⟨rfl,hb1⟩;have hbb:=hal.trans (hb1.mono hal.size)
   have c0:w1.cell? ⟨w.heap.size,0,none⟩=some (.bool m):=(hb1.cell (p:=⟨w.heap.size,0,none⟩) (by simp;omega)).trans (by go_simp);go_wp2_with fail;refine (HG.out w1).mono ?_;rintro e w2 ⟨rfl,hb2⟩;go_wp2_with fail;go_ret2;exact ⟨Au (by rw [HR.out]) (by rw [HR.out]),hbb.trans (hb2.mono hbb.size)⟩
theorem keep4 {w wo wn:World} {g:Nat} {v0 v1 v2 v3:Value} (h:Below w.heap.size w wo/\wo.cell? ⟨g,0,none⟩=some v0/\wo.cell? ⟨g,1,none⟩=some v1/\wo.cell? ⟨g,2,none⟩=some v2/\wo.cell? ⟨g,3,none⟩=some v3/\g<wo.heap.size) (hb:Below wo.heap.size wo wn) :
  Below w.heap.size w wn/\wn.cell? ⟨g,0,none⟩=some v0/\wn.cell? ⟨g,1,none⟩=some v1/\wn.cell? ⟨g,2,none⟩=some v2/\wn.cell? ⟨g,3,none⟩=some v3/\g<wn.heap.size :=
 ⟨h.1.trans (hb.mono h.1.size),(hb.cell (p:=⟨g,0,none⟩) h.2.2.2.2.2).trans h.2.1,(hb.cell (p:=⟨g,1,none⟩) h.2.2.2.2.2).trans h.2.2.1,(hb.cell (p:=⟨g,2,none⟩) h.2.2.2.2.2).trans h.2.2.2.1,(hb.cell (p:=⟨g,3,none⟩) h.2.2.2.2.2).trans h.2.2.2.2.1,Nat.lt_of_lt_of_le h.2.2.2.2.2 hb.size⟩
set_option maxHeartbeats 1000000 in
set_option maxRecDepth 100000 in
theorem padd_any (a b:List UInt8) (w:World) (ha:a.length<=1000000) (hbl:b.length<=1000000) (ht:Tb w) :
  Calls Tryz.prog 52 #[.string (B a),.string (B b)] w fun e w'=>e=.returned (.tuple #[.string (B (addIS a b)),.int .i64 (addIE a b)])/\Below w.heap.size w w':=by
 have hma:a.length<=maxLen:=by unfold maxLen;omega
 have hmb:b.length<=maxLen:=by unfold maxLen;omega
 have HRD:=hid (Rw [a,b] (some ⟨w.heap.size,0,none⟩) 2 _ (ct w a b) (Nat.le_refl _) (by simp) (by simp) (by simpa using ⟨hma,hmb⟩));have HE1:=hid (errL_two a b);go_enter Tryz.func52,Tryz.ntmps52;simp only [Bm];go_wp2_with fail;refine HRD.out.mono ?_;rintro e w1 (⟨he,A,c,rfl,hown,hb1⟩ | ⟨he,rfl,hb1⟩)
 ·have hb:=(ab w (.cells #[.string (B a),.string (B b)] 9)).trans (hb1.mono (by simp))
  obtain ⟨g,rfl,hg1,hg2,hgc,hgf⟩:=hown.at_ (by simp);have c0:w1.cell? ⟨g,0,none⟩=some (.bool (Ac a)):=hgc 0 (by simp);have c1:w1.cell? ⟨g,1,none⟩=some (.string (B (mg a))):=hgc 1 (by simp);have c2:w1.cell? ⟨g,2,none⟩=some (.bool (Ac b)):=hgc 2 (by simp);have c3:w1.cell? ⟨g,3,none⟩=some (.string (B (mg b))):=hgc 3 (by simp);rw [HE1.out] at he;obtain ⟨h1,h2,h3,h4⟩:=EI.1 he
  have HDA:=hid (dm h1);have HDB:=hid (dm h2);have hla:(dec (val (mg a))).length<=4096:=by rw [<- dm h1];exact h3
  have hlb:(dec (val (mg b))).length<=4096:=by rw [<- dm h2];exact h4
  have HA:=hid (vg a);have HB:=hid (vg b);have hcap:=hown.cap
  have HR:=hid (show addIS a b=RS (sg (Ac a) (val (mg a))+sg (Ac b) (val (mg b)))/\addIE a b=rE (sg (Ac a) (val (mg a))+sg (Ac b) (val (mg b))) by
   have hz:sg (Ac a) (val (mg a))+sg (Ac b) (val (mg b))=VI a+VI b:=by rw [HA.out,HB.out]
   rw [hz];exact ⟨if_pos he,if_pos he⟩)
  have HS:=hid (fun w ht=>psum_any (Ac a) (Ac b) (val (mg a)) (val (mg b)) w hla hlb ht);clear he hgc hgf hown hb1;go_wp2_with fail;rw [HDA.out] at c1;rw [HDB.out] at c3;have hbd:Below w.heap.size w w1.drew:=bd hb;have hS:=HS.out _ (ht.below hbd)
  have hS0:Below w.heap.size w w1.drew/\w1.drew.cell? ⟨g,0,none⟩=some (.bool (Ac a))/\w1.drew.cell? ⟨g,1,none⟩=some (.string (B (dec (val (mg a)))))/\w1.drew.cell? ⟨g,2,none⟩=some (.bool (Ac b))/\w1.drew.cell? ⟨g,3,none⟩=some (.string (B (dec (val (mg b)))))/\g<w1.drew.heap.size:=⟨hbd,c0,c1,c2,c3,hg2⟩
  go_region_held3 (fun w'=>Below w.heap.size w w'/\w'.cell? ⟨g,0,none⟩=some (.bool (Ac a))/\w'.cell? ⟨g,1,none⟩=some (.string (B (dec (val (mg a)))))/\w'.cell? ⟨g,2,none⟩=some (.bool (Ac b))/\w'.cell? ⟨g,3,none⟩=some (.string (B (dec (val (mg b)))))/\g<w'.heap.size)
   (first | (exact keep4 (hb:=hb3) (by assumption)) | (with_reducible exact hS0))
   (first | (go_at_call 109;((with_reducible refine hS.mono ?_);rintro e w3 ⟨rfl,hb3⟩)))
  all_goals
   go_wp2_with fail;go_ret2;exact ⟨Au HR.out.1.symm HR.out.2.symm,hbd.trans (hb3.mono hbd.size)⟩
 ·have hb:=(ab w (.cells #[.string (B a),.string (B b)] 9)).trans (hb1.mono (by simp))
  rw [HE1.out] at he ⊢;have HR:=hid (show addIS a b=[]/\addIE a b=eI a b from ⟨if_neg he,if_neg he⟩);have hne:(eI a b != 0)=true:=by simpa using he
  clear he hb1;go_wp2_with fail;go_ret2;exact ⟨Au HR.out.1.symm HR.out.2.symm,hb⟩
set_option maxHeartbeats 1000000 in
set_option maxRecDepth 100000 in
theorem pmul_any (a b:List UInt8) (w:World) (ha:a.length<=1000000) (hbl:b.length<=1000000) (ht:Tb w) :
  Calls Tryz.prog 151 #[.string (B a),.string (B b)] w fun e w'=>e=.returned (.tuple #[.string (B (mulIS a b)),.int .i64 (mulIE a b)])/\Below w.heap.size w w':=by
 have hma:a.length<=maxLen:=by unfold maxLen;omega
 have hmb:b.length<=maxLen:=by unfold maxLen;omega
 have HRD:=hid (Rw [a,b] (some ⟨w.heap.size,0,none⟩) 2 _ (ct w a b) (Nat.le_refl _) (by simp) (by simp) (by simpa using ⟨hma,hmb⟩));have HE1:=hid (errL_two a b);go_enter Tryz.func151,Tryz.ntmps151;simp only [Bm];go_wp2_with fail;refine HRD.out.mono ?_;rintro e w1 (⟨he,A,c,rfl,hown,hb1⟩ | ⟨he,rfl,hb1⟩)
 ·have hb:=(ab w (.cells #[.string (B a),.string (B b)] 9)).trans (hb1.mono (by simp))
  obtain ⟨g,rfl,hg1,hg2,hgc,hgf⟩:=hown.at_ (by simp);have c0:w1.cell? ⟨g,0,none⟩=some (.bool (Ac a)):=hgc 0 (by simp);have c1:w1.cell? ⟨g,1,none⟩=some (.string (B (mg a))):=hgc 1 (by simp);have c2:w1.cell? ⟨g,2,none⟩=some (.bool (Ac b)):=hgc 2 (by simp);have c3:w1.cell? ⟨g,3,none⟩=some (.string (B (mg b))):=hgc 3 (by simp);rw [HE1.out] at he;obtain ⟨h1,h2,h3,h4⟩:=EI.1 he
  have HDA:=hid (dm h1);have HDB:=hid (dm h2);have hla:(dec (val (mg a))).length<=4096:=by rw [<- dm h1];exact h3
  have hlb:(dec (val (mg b))).length<=4096:=by rw [<- dm h2];exact h4
  have HA:=hid (vg a);have HB:=hid (vg b);have hcap:=hown.cap
  have HR:=hid (show mulIS a b=RS (sg (!(Ac a == Ac b)) (val (mg a)*val (mg b)))/\mulIE a b=rE (sg (!(Ac a == Ac b)) (val (mg a)*val (mg b))) by
   have hz:sg (!(Ac a == Ac b)) (val (mg a)*val (mg b))=VI a*VI b:=by rw [HA.out,HB.out,mul_sg];rfl
   rw [hz];exact ⟨if_pos he,if_pos he⟩)
  have HM:=hid (fun w ht=>mul_any (dec (val (mg a))) (dec (val (mg b))) w (mL (by omega)) (mL (by omega)) ht);have HMS:=hid (mulS_dec' hla hlb);have HS:=hid (fun w=>Pa (!(Ac a == Ac b)) (val (mg a)*val (mg b)) w);clear he hgc hgf hown hb1;go_wp2_with fail;rw [HDA.out] at c1;rw [HDB.out] at c3;have hbd:Below w.heap.size w w1.drew:=bd hb
  have hS:=HM.out _ (ht.below hbd);rw [HMS.out.1,HMS.out.2] at hS;have hS0:Below w.heap.size w w1.drew/\w1.drew.cell? ⟨g,0,none⟩=some (.bool (Ac a))/\w1.drew.cell? ⟨g,1,none⟩=some (.string (B (dec (val (mg a)))))/\w1.drew.cell? ⟨g,2,none⟩=some (.bool (Ac b))/\w1.drew.cell? ⟨g,3,none⟩=some (.string (B (dec (val (mg b)))))/\g<w1.drew.heap.size:=⟨hbd,c0,c1,c2,c3,hg2⟩
  go_region_held3 (fun w'=>Below w.heap.size w w'/\w'.cell? ⟨g,0,none⟩=some (.bool (Ac a))/\w'.cell? ⟨g,1,none⟩=some (.string (B (dec (val (mg a)))))/\w'.cell? ⟨g,2,none⟩=some (.bool (Ac b))/\w'.cell? ⟨g,3,none⟩=some (.string (B (dec (val (mg b)))))/\g<w'.heap.size)
   (first | (exact keep4 (hb:=hb3) (by assumption)) | (with_reducible exact hS0))
   (first | (go_at_call 174;((with_reducible refine hS.mono ?_);rintro e w3 ⟨rfl,hb3⟩)))
  all_goals
   have hbe:=hbd.trans (hb3.mono hbd.size);have hS2:=keep4 hS0 hb3;obtain ⟨_,e0,e1,e2,e3,hg3⟩:=hS2;have hbf:Below w.heap.size w w3.drew:=bd hbe
   have hS3:Below w.heap.size w w3.drew/\w3.drew.cell? ⟨g,0,none⟩=some (.bool (Ac a))/\w3.drew.cell? ⟨g,1,none⟩=some (.string (B (dec (val (mg a)))))/\w3.drew.cell? ⟨g,2,none⟩=some (.bool (Ac b))/\w3.drew.cell? ⟨g,3,none⟩=some (.string (B (dec (val (mg b)))))/\g<w3.drew.heap.size:=⟨hbf,e0,e1,e2,e3,hg3⟩
   clear hb3 c0 c1 c2 c3 hS hS0;go_wp2_with fail;go_region_held3 (fun w'=>Below w.heap.size w w'/\w'.cell? ⟨g,0,none⟩=some (.bool (Ac a))/\w'.cell? ⟨g,1,none⟩=some (.string (B (dec (val (mg a)))))/\w'.cell? ⟨g,2,none⟩=some (.bool (Ac b))/\w'.cell? ⟨g,3,none⟩=some (.string (B (dec (val (mg b)))))/\g<w'.heap.size)
    (first | (exact keep4 (hb:=hb5) (by assumption)) | (with_reducible exact hS3))
    (first | (go_at_call 157;((with_reducible refine (HS.out w3.drew).mono ?_);rintro e w5 ⟨rfl,hb5⟩)))
   all_goals
    go_wp2_with fail;go_ret2;exact ⟨Au HR.out.1.symm HR.out.2.symm,hbf.trans (hb5.mono hbf.size)⟩
 ·have hb:=(ab w (.cells #[.string (B a),.string (B b)] 9)).trans (hb1.mono (by simp))
  rw [HE1.out] at he ⊢;have HR:=hid (show mulIS a b=[]/\mulIE a b=eI a b from ⟨if_neg he,if_neg he⟩);have hne:(eI a b != 0)=true:=by simpa using he
  clear he hb1;go_wp2_with fail;go_ret2;exact ⟨Au HR.out.1.symm HR.out.2.symm,hb⟩
theorem divS_dec {p q:Nat} (hp:(dec p).length<=4096) (hq:(dec q).length<=4096) (h:q≠0):divQ (dec p) (dec q)=dec (p / q)/\divR (dec p) (dec q)=dec (p % q)/\di (dec p) (dec q)=0:=by
 have h0:di (dec p) (dec q)=0:=by unfold di;rw [if_pos (ed hp hq),vD,if_neg h]
 unfold divQ divR;rw [h0,if_pos rfl,if_pos rfl,vD,vD];exact ⟨rfl,rfl,rfl⟩
theorem resS_len {n:Nat} (h:(dec n).length<=4096):Ax n=dec n/\RE n=0:=⟨if_pos h,if_pos h⟩
theorem quo_len {x y:Nat} (hx:(dec x).length<=4096) (hy0:y≠0) (hr:x % y≠0):(dec (x / y+1)).length<=4096:=by
 refine Nat.le_trans (ld ?_) hx;have hx0:x≠0:=by intro e;rw [e] at hr;simp at hr
 have hy:2<=y∨y<=1:=by omega
 rcases hy with hy | hy
 ·have h1:x / y<=x / 2:=Nat.div_le_div_left hy (by omega)
  omega
 ·exfalso
  apply hr
  have h1:y=1:=by omega
  subst h1;exact Nat.mod_one x
theorem div_t_false {m n:Bool} {x y:Nat} (hy:0<y) (h:¬ (m≠n/\x % y≠0)):qI (sg m x) (sg n y)=sg (!(m == n)) (x / y)/\rI (sg m x) (sg n y)=sg n (x % y):=by
 by_cases hmn:m=n
 ·subst hmn
  have:=div_same m (x:=x) hy;refine ⟨?_,this.2⟩;rw [this.1];simp [sg]
 ·have hr:x % y=0:=by
   by_cases hr:x % y=0
   ·exact hr
   ·exact absurd ⟨hmn,hr⟩ h
  have:=div_exact hmn hy hr;have hb:(!(m == n))=true:=by simpa using hmn
  rw [this.1,this.2,hr,hb,sg_zero];exact ⟨rfl,rfl⟩
theorem div_t_true {m n:Bool} {x y:Nat} (hy:0<y) (h:m≠n/\x % y≠0):qI (sg m x) (sg n y)=sg (!(m == n)) (x / y+1)/\rI (sg m x) (sg n y)=sg n (y - x % y):=by
 have:=div_other h.1 hy h.2;have hb:(!(m == n))=true:=by simpa using h.1
 rw [this.1,this.2,hb];exact ⟨rfl,rfl⟩
theorem keepS {w wo wn:World} {m n:Bool} {p q:Nat} (h:Below w.heap.size w wo/\wo.cell? ⟨p,0,none⟩=some (.bool m)/\wo.cell? ⟨q,0,none⟩=some (.bool n)/\p<wo.heap.size/\q<wo.heap.size) (hb:Below wo.heap.size wo wn) :
  Below w.heap.size w wn/\wn.cell? ⟨p,0,none⟩=some (.bool m)/\wn.cell? ⟨q,0,none⟩=some (.bool n)/\p<wn.heap.size/\q<wn.heap.size :=
 ⟨h.1.trans (hb.mono h.1.size),(hb.cell (p:=⟨p,0,none⟩) h.2.2.2.1).trans h.2.1,(hb.cell (p:=⟨q,0,none⟩) h.2.2.2.2).trans h.2.2.1,Nat.lt_of_lt_of_le h.2.2.2.1 hb.size,Nat.lt_of_lt_of_le h.2.2.2.2 hb.size⟩
set_option maxHeartbeats 2000000 in
set_option maxRecDepth 100000 in
theorem pdiv_any (a b:List UInt8) (w:World) (ha:a.length<=1000000) (hbl:b.length<=1000000) (ht:Tb w) :
  Calls Tryz.prog 154 #[.string (B a),.string (B b)] w fun e w'=>e=.returned (.tuple #[.string (B (divIQ a b)),.string (B (divIR a b)),.int .i64 (DE a b)])/\Below w.heap.size w w':=by
 have hma:a.length<=maxLen:=by unfold maxLen;omega
 have hmb:b.length<=maxLen:=by unfold maxLen;omega
 have HRD:=hid (Rw [a,b] (some ⟨w.heap.size,0,none⟩) 2 _ (ct w a b) (Nat.le_refl _) (by simp) (by simp) (by simpa using ⟨hma,hmb⟩));have HE1:=hid (errL_two a b);go_enter Tryz.func154,Tryz.ntmps154;simp only [Bm];go_wp2_with fail;refine HRD.out.mono ?_;rintro e w1 (⟨he,A,c,rfl,hown,hb1⟩ | ⟨he,rfl,hb1⟩)
 ·have hb:=(ab w (.cells #[.string (B a),.string (B b)] 9)).trans (hb1.mono (by simp))
  obtain ⟨g,rfl,hg1,hg2,hgc,hgf⟩:=hown.at_ (by simp);have c0:w1.cell? ⟨g,0,none⟩=some (.bool (Ac a)):=hgc 0 (by simp);have c1:w1.cell? ⟨g,1,none⟩=some (.string (B (mg a))):=hgc 1 (by simp);have c2:w1.cell? ⟨g,2,none⟩=some (.bool (Ac b)):=hgc 2 (by simp);have c3:w1.cell? ⟨g,3,none⟩=some (.string (B (mg b))):=hgc 3 (by simp);rw [HE1.out] at he;obtain ⟨h1,h2,h3,h4⟩:=EI.1 he
  have HDA:=hid (dm h1);have HDB:=hid (dm h2);have hla:(dec (val (mg a))).length<=4096:=by rw [<- dm h1];exact h3
  have hlb:(dec (val (mg b))).length<=4096:=by rw [<- dm h2];exact h4
  have HA:=hid (vg a);have HB:=hid (vg b);have HZ:=hid (fun hb=>divI_zero (a:=a) (b:=b) he hb);have HO:=hid (fun hb=>divI_ok (a:=a) (b:=b) he hb);have hcap:=hown.cap;rw [HDA.out] at c1;rw [HDB.out] at c3;clear he hgc hgf hown hb1 h1 h2 h3 h4 HDA HDB HRD HE1;generalize val (mg a)=x at *;generalize val (mg b)=y at *;generalize Ac a=m at *;generalize Ac b=n at *
  go_upto_region 4 with fail;go_cut [9,10] (fun s9 s10 wx=>∃ p q:Nat,s9=.pointer (some ⟨p,0,none⟩)/\s10=.pointer (some ⟨q,0,none⟩)/\wx.cell? ⟨p,0,none⟩=some (.bool m)/\wx.cell? ⟨p,1,none⟩=some (.string (B (dec x))) /\
   wx.cell? ⟨q,0,none⟩=some (.bool n)/\wx.cell? ⟨q,1,none⟩=some (.string (B (dec y)))/\p<wx.heap.size/\q<wx.heap.size/\Below w.heap.size w wx)
  case first =>
   have hbd:Below w.heap.size w w1.drew:=bd hb;go_region_with fail
   all_goals
    go_wp2_with fail;go_meet;exact ⟨_,_,rfl,rfl,by go_simp,by go_simp,by go_simp,by go_simp,by show _<((w1.alloc _).alloc _).heap.size;simp;try omega,by show _<((w1.alloc _).alloc _).heap.size;simp;try omega,bd ((hb.alloc hb.size _).alloc (by have:=hb.size;simp;omega) _)⟩
  case rest =>
   obtain ⟨p,q,rfl,rfl,k0,k1,k2,k3,hp,hq,hbx⟩:=hcut;clear c0 c1 c2 c3;by_cases hy:y=0
   ·have HR:=hid (HZ.out (by rw [HB.out,hy,sg_zero]))
    have hy0:(dec y == [48])=true:=by rw [hy,dz];rfl
    clear hy;go_wp2_with fail;go_ret3;exact ⟨ret_ssi HR.out.1.symm HR.out.2.1.symm HR.out.2.2.symm,hbx⟩
   have hyp:0<y:=by omega
   have hy0:(dec y == [48])=false:=by
    have:dec y≠[48]:=by intro e;rw [<- dz] at e;exact hy (Di e)
    simpa using this
   have HR:=hid (HO.out (by
    rw [HB.out];intro e;have:=congrArg Int.natAbs e;rw [Cl] at this;exact hy this))
   have HD:=hid (fun w ht=>div_any (dec x) (dec y) w (mL (by omega)) (mL (by omega)) ht);have HDS:=hid (divS_dec hla hlb hy);have hlq:(dec (x / y)).length<=4096:=Nat.le_trans (ld (Nat.div_le_self x y)) hla;have hlr:(dec (x % y)).length<=4096:=Nat.le_trans (ld (Nat.le_of_lt (Nat.mod_lt x hyp))) hlb;have hle:x % y<=y:=Nat.le_of_lt (Nat.mod_lt x hyp)
   have HQL:=hid (fun h=>quo_len (x:=x) (y:=y) hla hy h);have HF:=hid (fun h=>div_t_false (m:=m) (n:=n) (x:=x) (y:=y) hyp h);have HT:=hid (fun h=>div_t_true (m:=m) (n:=n) (x:=x) (y:=y) hyp h);clear hy;go_wp2_with fail;refine (HD.out _ (ht.below hbx)).mono ?_;rw [HDS.out.1,HDS.out.2.1,HDS.out.2.2];rintro e w3 ⟨rfl,hb3⟩;have hby:=hbx.trans (hb3.mono hbx.size)
   have e0:=(hb3.cell (p:=⟨p,0,none⟩) hp).trans k0;have e2:=(hb3.cell (p:=⟨q,0,none⟩) hq).trans k2;have e3:=(hb3.cell (p:=⟨q,1,none⟩) hq).trans k3;have hp3:p<w3.heap.size:=Nat.lt_of_lt_of_le hp hb3.size;have hq3:q<w3.heap.size:=Nat.lt_of_lt_of_le hq hb3.size;clear k0 k1 k2 k3 hp hq hbx hb3 HD HDS;go_upto_region 10 with fail;go_cut [52] (fun s52 wx=>∃ t:Bool,s52=.bool t/\(t=true↔m≠n/\x % y≠0)/\wx=w3)
   case first =>
    by_cases hr0:x % y=0
    ·have hr1:(dec (x % y) == [48])=true:=by rw [hr0,dz];rfl
     have HR0:=hid hr0;clear hr0;cases m <;> cases n
     all_goals
      go_wp2_with fail;go_meet;exact ⟨_,rfl,by simp [HR0.out],rfl⟩
    ·have hrn:dec (x % y)≠[48]:=by intro e;rw [<- dz] at e;exact hr0 (Di e)
     have hr1:(dec (x % y) == [48])=false:=by simpa using hrn
     have HR0:=hid hr0;clear hr0 hrn;cases m <;> cases n
     all_goals
      go_wp2_with fail;go_meet;exact ⟨_,rfl,by simp [HR0.out],rfl⟩
   case rest =>
    obtain ⟨t,rfl,ht2,rfl⟩:=hcut;have HT2:=hid ht2;clear ht2;go_upto_if 52 with fail;go_cut [8,11,12] (fun s8 s11 s12 wx=>∃ Q R:Nat,s11=.string (B (dec Q))/\s12=.string (B (dec R))/\qI (sg m x) (sg n y)=sg (!(m == n)) Q/\rI (sg m x) (sg n y)=sg n R/\(dec Q).length<=4096/\(dec R).length<=4096 /\
     Below w.heap.size w wx/\wx.cell? ⟨p,0,none⟩=some (.bool m)/\wx.cell? ⟨q,0,none⟩=some (.bool n)/\p<wx.heap.size/\q<wx.heap.size)
    case first =>
     cases t
     ·have HQ:=hid (HF.out (fun h=>by have:=HT2.out.2 h;cases this))
      go_wp2_with fail;go_meet;exact ⟨_,_,rfl,rfl,HQ.out.1,HQ.out.2,hlq,hlr,hby,e0,e2,hp3,hq3⟩
     ·have HQ:=hid (HT.out (HT2.out.1 rfl))
      have hr0:=(HT2.out.1 rfl).2;have hq1:=HQL.out hr0;have hl2:(dec (y - x % y)).length<=4096:=Nat.le_trans (ld (by omega)) hlb;have HP:=hid (fun w ht=>add_any (dec (x / y)) [49] w (mL (by omega)) (mL (by decide)) ht)
      have HPS:=hid (show addS (dec (x / y)) [49]=dec (x / y+1)/\addE (dec (x / y)) [49]=0 by
       have h1:dec 1=[49]:=dec_lt (by omega);have h2:=addS_dec' (p:=x / y) (q:=1) hlq (by rw [h1];decide);rw [h1] at h2;rw [h2.1,h2.2];exact resS_len hq1)
      have HM:=hid (fun w ht=>sub_any (dec y) (dec (x % y)) w (mL (by omega)) (mL (by omega)) ht)
      have HMS:=hid (show subS (dec y) (dec (x % y))=dec (y - x % y)/\subE (dec y) (dec (x % y))=0 by
       have h2:=sU (p:=y) (q:=x % y) hlb hlr hle;rw [h2.1,h2.2];exact resS_len hl2)
      clear hr0;go_wp2_with fail;refine (HP.out _ (ht.below hby)).mono ?_;rw [HPS.out.1,HPS.out.2];rintro e w4 ⟨rfl,hb4⟩;have hbz:=hby.trans (hb4.mono hby.size);have f0:=(hb4.cell (p:=⟨p,0,none⟩) hp3).trans e0;have f2:=(hb4.cell (p:=⟨q,0,none⟩) hq3).trans e2;have f3:=(hb4.cell (p:=⟨q,1,none⟩) hq3).trans e3;have hp4:p<w4.heap.size:=Nat.lt_of_lt_of_le hp3 hb4.size
      have hq4:q<w4.heap.size:=Nat.lt_of_lt_of_le hq3 hb4.size;clear e0 e2 e3 hp3 hq3 hby hb4;go_wp2_with fail;refine (HM.out _ (ht.below hbz)).mono ?_;rw [HMS.out.1,HMS.out.2];rintro e w5 ⟨rfl,hb5⟩;have g0:=(hb5.cell (p:=⟨p,0,none⟩) hp4).trans f0;have g2:=(hb5.cell (p:=⟨q,0,none⟩) hq4).trans f2;go_wp2_with fail;go_meet
      exact ⟨_,_,rfl,rfl,HQ.out.1,HQ.out.2,hq1,hl2,hbz.trans (hb5.mono hbz.size),g0,g2,Nat.lt_of_lt_of_le hp4 hb5.size,Nat.lt_of_lt_of_le hq4 hb5.size⟩
    case rest =>
     obtain ⟨Q,R,rfl,rfl,hq1,hr1,hlQ,hlR,hby,e0,e2,hp3,hq3⟩:=hcut;have HQV:=hid hq1;have HRV:=hid hr1;have HT1:=hid (fun w=>pY (!(m == n)) Q w (by omega));have HT3:=hid (fun w=>pY n R w (by omega));clear hq1 hr1 HF HT HQL hlq hlr hle
     have hS0:Below w.heap.size w wc.drew/\wc.drew.cell? ⟨p,0,none⟩=some (.bool m)/\wc.drew.cell? ⟨q,0,none⟩=some (.bool n)/\p<wc.drew.heap.size/\q<wc.drew.heap.size:=⟨bd hby,e0,e2,hp3,hq3⟩
     go_wp2_with fail;go_region_held3 (fun w'=>Below w.heap.size w w'/\w'.cell? ⟨p,0,none⟩=some (.bool m)/\w'.cell? ⟨q,0,none⟩=some (.bool n)/\p<w'.heap.size/\q<w'.heap.size)
      (first | (exact keepS (hb:=hb4) (by assumption)) | (with_reducible exact hS0))
      (first | (go_at_call 180;((with_reducible refine (HT1.out _).mono ?_);rintro e w4 ⟨rfl,hb4⟩)) | (go_at_call 180;((with_reducible refine (HT3.out _).mono ?_);rintro e w4 ⟨rfl,hb4⟩)))
     all_goals
      have hfin:=(show Below w.heap.size w w4/\w4.cell? ⟨p,0,none⟩=some (.bool m)/\w4.cell? ⟨q,0,none⟩=some (.bool n)/\p<w4.heap.size/\q<w4.heap.size from by assumption).1;go_wp2_with fail;go_ret3;exact ⟨ret_ssi (by rw [HR.out.1,HA.out,HB.out,HQV.out]) (by rw [HR.out.2.1,HA.out,HB.out,HRV.out]) HR.out.2.2.symm,hfin⟩
 ·have hb:=(ab w (.cells #[.string (B a),.string (B b)] 9)).trans (hb1.mono (by simp))
  rw [HE1.out] at he ⊢;have HR:=hid (divI_err he);have hne:(eI a b != 0)=true:=by simpa using he
  clear he hb1;go_wp2_with fail;go_ret3;exact ⟨ret_ssi HR.out.1.symm HR.out.2.1.symm HR.out.2.2.symm,hb⟩
end Go.Proofs.YtjcekdiocliddaaGreatDoor

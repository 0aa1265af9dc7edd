/- ratio: digits, split, Right. (Printed by wip/rprog.py.) -/
import Derived.Test.YtjcekdiocliddaaGreatDoorG46
import Derived.Test.YtjcekdiocliddaaGreatDoorG12
import Derived.Test.YtjcekdiocliddaaGreatDoorG9
import Derived.Handy
namespace Go.Proofs.YtjcekdiocliddaaGreatDoor
open Lib (hid)
open Go.RowKit Num
set_option linter.unusedVariables false
attribute [local go_sem] BS Bg Bt Bm Be Ba
attribute [local go_sem high] rm
def MaxV (w:World):Prop:=∃ m,w.cell? ⟨0,0,none⟩=some (.int .i64 m)
theorem MaxV.below {w w':World} (h:MaxV w) (hb:Below w.heap.size w w'):MaxV w':=by
 obtain ⟨m,h⟩:=h;refine ⟨m,?_⟩;rw [<- h];refine hb.cell (p:=⟨0,0,none⟩) ?_;rcases Nat.lt_or_ge 0 w.heap.size with h' | h'
 ·exact h'
 ·unfold World.cell? at h
  simp only at h;rw [Array.getElem?_eq_none h'] at h;simp at h
def Env (w:World):Prop:=Tb w/\MaxV w
theorem Env.below {w w':World} (h:Env w) (hb:Below w.heap.size w w'):Env w':=⟨h.1.below hb,h.2.below hb⟩
theorem ta (l:List UInt8) (w:World):Calls Tryz.prog 153 #[.string (B l),.string (B [45])] w fun e w'=>e=.returned (.string (B (mg l)))/\w'=w:=by
 refine (Tryz.strings_TrimPrefix (B l) (B [45]) w).mono ?_;rintro e w' ⟨rfl,rfl⟩;refine ⟨?_,rfl⟩;rw [show (B l).data.toList=l from by simp [B],show (B [45]).data.toList=[45] from rfl,trim_mag];rfl
def restS (l:Sr):Sr:=if Ae l=true then postS l else []
theorem cutq_any (l:List UInt8) (w:World) (hl:l.length<=1000000) (hm:MaxV w) :
  Calls Tryz.prog 173 #[.string (B l),.string (B [47])] w fun e w'=>e=.returned (.tuple #[.string (B (nT l)),.string (B (restS l)),.bool (Ae l)])/\Below w.heap.size w w':=by
 obtain ⟨m,hm⟩:=hm;refine (Tryz.strings_Cut (B l) (B [47]) m w (by rw [BS];omega) hm).mono ?_;rintro e w' ⟨rfl,n,rfl⟩;refine ⟨?_,below_drewN (Below.refl _ _) n⟩;rw [show (B l).data.toList=l from by simp [B],show (B [47]).data.toList=[47] from rfl,cut_slash];unfold nT restS;by_cases h:Ae l=true
 ·rw [if_pos h,if_pos h,if_pos h,h];rfl
 ·rw [if_neg h,if_neg h,if_neg h];simp at h;rw [h];rfl
theorem containsq_any (l:List UInt8) (w:World) (hl:l.length<=1000000) (hm:MaxV w) :
  Calls Tryz.prog 171 #[.string (B l),.string (B [47])] w fun e w'=>e=.returned (.bool (Ae l))/\Below w.heap.size w w':=by
 obtain ⟨m,hm⟩:=hm;refine (Tryz.strings_Contains (B l) (B [47]) m w (by rw [BS];omega) hm).mono ?_;rintro e w' ⟨rfl,h⟩;refine ⟨?_,by first | (obtain ⟨n,rfl⟩:=h;exact below_drewN (Below.refl _ _) n) | (subst h;exact Below.refl _ _)⟩;rw [show (B l).data.toList=l from by simp [B],show (B [47]).data.toList=[47] from rfl,contains_slash]
theorem qA (l:List UInt8) (w:World) (hs:l.length<=maxLen) :
  Calls Tryz.prog 170 #[.string (B l)] w fun e w'=>e=.returned (.int .i64 ((mg l).length:Int))/\w'=w:=by
 have hml:=Ml l;unfold maxLen at hs;go_enter Tryz.func170,Tryz.ntmps170;simp only [Bm];go_wp2_with fail;refine (ta l w).mono ?_;rintro e w' ⟨rfl,h⟩;obtain rfl:=h.symm;go_wp2_with fail;go_ret;exact ⟨rfl,rfl⟩
theorem ret_ss {a b a' b':List UInt8} (h:a=a') (h1:b=b'):Ending.returned (.tuple #[.string (B a),.string (B b)])=.returned (.tuple #[.string (B a'),.string (B b')]):=by rw [h,h1]
theorem qa (l:List UInt8) (w:World) (hl:l.length<=1000000) (hm:MaxV w) :
  Calls Tryz.prog 150 #[.string (B l)] w fun e w'=>e=.returned (.tuple #[.string (B (nT l)),.string (B (DT l))])/\Below w.heap.size w w':=by
 have HC:=hid (cutq_any l w hl hm);cases hh:Ae l
 ·have HD:=hid (show DT l=[49] by unfold DT;rw [hh];rfl)
  go_enter Tryz.func150,Tryz.ntmps150;simp only [Bm];go_wp2_with fail;refine HC.out.mono ?_;rintro e w1 ⟨rfl,hb1⟩;go_wp2_with fail;go_ret2;exact ⟨ret_ss rfl HD.out.symm,hb1⟩
 ·have HD:=hid (show DT l=restS l by unfold DT restS;rw [hh];rfl)
  go_enter Tryz.func150,Tryz.ntmps150;simp only [Bm];go_wp2_with fail;refine HC.out.mono ?_;rintro e w1 ⟨rfl,hb1⟩;go_wp2_with fail;go_ret2;exact ⟨ret_ss rfl HD.out.symm,hb1⟩
theorem numT_len (l:Sr):(nT l).length<=l.length:=by
 unfold nT;by_cases h:Ae l=true
 ·rw [if_pos h];have:=congrArg List.length (Bf h).1;rw [List.length_append] at this;omega
 ·rw [if_neg h];exact Nat.le_refl _
theorem denT_len (l:Sr):(DT l).length<=l.length+1:=by
 unfold DT;by_cases h:Ae l=true
 ·rw [if_pos h];have:=congrArg List.length (Bf h).1;rw [List.length_append,List.length_cons] at this;omega
 ·rw [if_neg h];simp
theorem rq_den {l:Sr} (h:Ae l=false):DT l=[49]:=by unfold DT;rw [h];rfl
theorem rq_no1 {l:Sr} (h:RI (nT l)=false):rQ l=false:=by unfold rQ;rw [h];rfl
theorem rq_no2 {l:Sr} (h:4096<(mg (nT l)).length):rQ l=false:=by
 unfold rQ;have:decide ((mg (nT l)).length<=4096)=false:=by simpa using h
 rw [this,Bool.and_false,Bool.false_and]
theorem mag_right {s:Sr} (h:right s=true):mg s=s:=by
 rw [<- Dv h];exact mag_dec _
theorem rq_no3 {l:Sr} (h:4096<(mg (DT l)).length):rQ l=false:=by
 cases hh:Ae l
 ·rw [rq_den hh] at h;exact absurd h (by decide)
 ·unfold rQ
  cases hr:right (DT l)
  ·rw [hh];simp
  ·rw [mag_right hr] at h
   have:decide ((DT l).length<=4096)=false:=by simpa using h
   rw [hh,this];simp
theorem rq_yes1 {l:Sr} (h1:RI (nT l)=true) (h2:(mg (nT l)).length<=4096) (h3:Ae l=false):rQ l=true:=by
 unfold rQ;rw [h1,h3];simp [h2]
theorem rq_no4 {l:Sr} (h3:Ae l=true) (h:right (DT l)=false∨DT l=[48]∨DT l=[49]∨nT l=[48]):rQ l=false:=by
 unfold rQ;rw [h3];rcases h with h | h | h | h
 ·rw [h];simp
 ·rw [h];simp
 ·rw [h];simp
 ·rw [h];simp
theorem rq_gcd {l:Sr} (h1:RI (nT l)=true) (h2:(mg (nT l)).length<=4096) (h3:Ae l=true) (h4:right (DT l)=true) (h5:(DT l).length<=4096) (h6:DT l≠[48]) (h7:DT l≠[49]) (h8:nT l≠[48]) :
  rQ l=decide (Nat.gcd (val (mg (nT l))) (val (DT l))=1):=by
 unfold rQ;rw [h1,h3,h4];have e6:(DT l == [48])=false:=by simpa using h6
 have e7:(DT l == [49])=false:=by simpa using h7
 have e8:(nT l == [48])=false:=by simpa using h8
 simp [h2,h5,e6,e7,e8]
theorem gcd_dec {a b:Sr} (h1:right a=true) (h2:right b=true) (h3:a.length<=4096) (h4:b.length<=4096) (h0:0<val b):gcdS a b=dec (Nat.gcd (val a) (val b))/\gcdE a b=0:=by
 have he:eT a b=0:=ez.2 ⟨h1,h2,h3,h4⟩
 have hl:(dec (Nat.gcd (val a) (val b))).length<=4096:=by
  have:=ld (Nat.gcd_le_right (val a) h0);rw [Dv h2] at this;omega
 unfold gcdS gcdE;rw [if_pos he,if_pos he];exact ⟨if_pos hl,if_pos hl⟩
set_option maxHeartbeats 2000000 in
theorem rq_any (l:List UInt8) (w:World) (hl:l.length<=1000000) (he:Env w) :
  Calls Tryz.prog 149 #[.string (B l)] w fun e w'=>e=.returned (.bool (rQ l))/\Below w.heap.size w w':=by
 have hln:=numT_len l;have hld:=denT_len l;have HSP:=hid (qa l w hl he.2);have HCT:=hid (fun w hm=>containsq_any l w hl hm);have HR1:=hid (fun w=>wright_any (nT l) w (mL (by omega)));have HD1:=hid (fun w=>qA (nT l) w (mL (by omega)));have HD2:=hid (fun w=>qA (DT l) w (mL (by omega)))
 have HN:=hid (fun w=>ra (DT l) w (mL (by omega)));have HG:=hid (fun w ht=>gcd_any (mg (nT l)) (DT l) w (mL (by have:=Ml (nT l);omega)) (mL (by omega)) ht);have hmn:=Ml (nT l);have hmd:=Ml (DT l);cases h1:RI (nT l)
 ·have HR:=hid (rq_no1 h1)
  go_enter Tryz.func149,Tryz.ntmps149;simp only [Bm];go_wp2_with fail;refine HSP.out.mono ?_;rintro e w1 ⟨rfl,hb1⟩;go_wp2_with fail;refine (HR1.out w1).mono ?_;rintro e w' ⟨rfl,h⟩;obtain rfl:=h.symm;go_wp2_with fail;go_ret;exact ⟨rb HR.out.symm,hb1⟩
 by_cases h2:4096<(mg (nT l)).length
 ·have h2':(4096:Int)<((mg (nT l)).length:Int):=by omega
  have HR:=hid (rq_no2 h2);go_enter Tryz.func149,Tryz.ntmps149;simp only [Bm];go_wp2_with fail;refine HSP.out.mono ?_;rintro e w1 ⟨rfl,hb1⟩;go_wp2_with fail;refine (HR1.out w1).mono ?_;rintro e w' ⟨rfl,h⟩;obtain rfl:=h.symm;go_wp2_with fail;refine (HD1.out w1).mono ?_;rintro e w' ⟨rfl,h⟩;obtain rfl:=h.symm;go_wp2_with fail;go_ret;exact ⟨rb HR.out.symm,hb1⟩
 have h2':¬ (4096:Int)<((mg (nT l)).length:Int):=by omega
 by_cases h3:4096<(mg (DT l)).length
 ·have h3':(4096:Int)<((mg (DT l)).length:Int):=by omega
  have HR:=hid (rq_no3 h3);go_enter Tryz.func149,Tryz.ntmps149;simp only [Bm];go_wp2_with fail;refine HSP.out.mono ?_;rintro e w1 ⟨rfl,hb1⟩;go_wp2_with fail;refine (HR1.out w1).mono ?_;rintro e w' ⟨rfl,h⟩;obtain rfl:=h.symm;go_wp2_with fail;refine (HD1.out w1).mono ?_;rintro e w' ⟨rfl,h⟩;obtain rfl:=h.symm;go_wp2_with fail;refine (HD2.out w1).mono ?_;rintro e w' ⟨rfl,h⟩;obtain rfl:=h.symm
  go_wp2_with fail;go_ret;exact ⟨rb HR.out.symm,hb1⟩
 have h3':¬ (4096:Int)<((mg (DT l)).length:Int):=by omega
 cases h4:Ae l
 ·have HR:=hid (rq_yes1 h1 (by omega) h4)
  go_enter Tryz.func149,Tryz.ntmps149;simp only [Bm];go_wp2_with fail;refine HSP.out.mono ?_;rintro e w1 ⟨rfl,hb1⟩;go_wp2_with fail;refine (HR1.out w1).mono ?_;rintro e w' ⟨rfl,h⟩;obtain rfl:=h.symm;go_wp2_with fail;refine (HD1.out w1).mono ?_;rintro e w' ⟨rfl,h⟩;obtain rfl:=h.symm;go_wp2_with fail;refine (HD2.out w1).mono ?_;rintro e w' ⟨rfl,h⟩;obtain rfl:=h.symm;go_wp2_with fail
  refine (HCT.out w1 (he.2.below hb1)).mono ?_;rintro e w2 ⟨rfl,hb2⟩;have a2:=hb1.trans (hb2.mono hb1.size);go_wp2_with fail;go_ret;exact ⟨rb HR.out.symm,a2⟩
 cases h5:right (DT l)
 ·have HR:=hid (rq_no4 h4 (.inl h5))
  go_enter Tryz.func149,Tryz.ntmps149;simp only [Bm];go_wp2_with fail;refine HSP.out.mono ?_;rintro e w1 ⟨rfl,hb1⟩;go_wp2_with fail;refine (HR1.out w1).mono ?_;rintro e w' ⟨rfl,h⟩;obtain rfl:=h.symm;go_wp2_with fail;refine (HD1.out w1).mono ?_;rintro e w' ⟨rfl,h⟩;obtain rfl:=h.symm;go_wp2_with fail;refine (HD2.out w1).mono ?_;rintro e w' ⟨rfl,h⟩;obtain rfl:=h.symm;go_wp2_with fail
  refine (HCT.out w1 (he.2.below hb1)).mono ?_;rintro e w2 ⟨rfl,hb2⟩;have a2:=hb1.trans (hb2.mono hb1.size);go_wp2_with fail;refine (HN.out w2).mono ?_;rintro e w' ⟨rfl,h⟩;obtain rfl:=h.symm;go_wp2_with fail;go_ret;exact ⟨rb HR.out.symm,a2⟩
 by_cases h6:DT l=[48]
 ·have h6':(DT l == [48])=true:=by simpa using h6
  have HR:=hid (rq_no4 h4 (.inr (.inl h6)));clear h6;go_enter Tryz.func149,Tryz.ntmps149;simp only [Bm];go_wp2_with fail;refine HSP.out.mono ?_;rintro e w1 ⟨rfl,hb1⟩;go_wp2_with fail;refine (HR1.out w1).mono ?_;rintro e w' ⟨rfl,h⟩;obtain rfl:=h.symm;go_wp2_with fail;refine (HD1.out w1).mono ?_;rintro e w' ⟨rfl,h⟩;obtain rfl:=h.symm;go_wp2_with fail
  refine (HD2.out w1).mono ?_;rintro e w' ⟨rfl,h⟩;obtain rfl:=h.symm;go_wp2_with fail;refine (HCT.out w1 (he.2.below hb1)).mono ?_;rintro e w2 ⟨rfl,hb2⟩;have a2:=hb1.trans (hb2.mono hb1.size);go_wp2_with fail;refine (HN.out w2).mono ?_;rintro e w' ⟨rfl,h⟩;obtain rfl:=h.symm;go_wp2_with fail;go_ret;exact ⟨rb HR.out.symm,a2⟩
 have h6':(DT l == [48])=false:=by simpa using h6
 by_cases h7:DT l=[49]
 ·have h7':(DT l == [49])=true:=by simpa using h7
  have HR:=hid (rq_no4 h4 (.inr (.inr (.inl h7))));clear h7 h6;go_enter Tryz.func149,Tryz.ntmps149;simp only [Bm];go_wp2_with fail;refine HSP.out.mono ?_;rintro e w1 ⟨rfl,hb1⟩;go_wp2_with fail;refine (HR1.out w1).mono ?_;rintro e w' ⟨rfl,h⟩;obtain rfl:=h.symm;go_wp2_with fail;refine (HD1.out w1).mono ?_;rintro e w' ⟨rfl,h⟩;obtain rfl:=h.symm;go_wp2_with fail
  refine (HD2.out w1).mono ?_;rintro e w' ⟨rfl,h⟩;obtain rfl:=h.symm;go_wp2_with fail;refine (HCT.out w1 (he.2.below hb1)).mono ?_;rintro e w2 ⟨rfl,hb2⟩;have a2:=hb1.trans (hb2.mono hb1.size);go_wp2_with fail;refine (HN.out w2).mono ?_;rintro e w' ⟨rfl,h⟩;obtain rfl:=h.symm;go_wp2_with fail;go_ret;exact ⟨rb HR.out.symm,a2⟩
 have h7':(DT l == [49])=false:=by simpa using h7
 by_cases h8:nT l=[48]
 ·have h8':(nT l == [48])=true:=by simpa using h8
  have HR:=hid (rq_no4 h4 (.inr (.inr (.inr h8))));clear h8 h7 h6;go_enter Tryz.func149,Tryz.ntmps149;simp only [Bm];go_wp2_with fail;refine HSP.out.mono ?_;rintro e w1 ⟨rfl,hb1⟩;go_wp2_with fail;refine (HR1.out w1).mono ?_;rintro e w' ⟨rfl,h⟩;obtain rfl:=h.symm;go_wp2_with fail;refine (HD1.out w1).mono ?_;rintro e w' ⟨rfl,h⟩;obtain rfl:=h.symm;go_wp2_with fail
  refine (HD2.out w1).mono ?_;rintro e w' ⟨rfl,h⟩;obtain rfl:=h.symm;go_wp2_with fail;refine (HCT.out w1 (he.2.below hb1)).mono ?_;rintro e w2 ⟨rfl,hb2⟩;have a2:=hb1.trans (hb2.mono hb1.size);go_wp2_with fail;refine (HN.out w2).mono ?_;rintro e w' ⟨rfl,h⟩;obtain rfl:=h.symm;go_wp2_with fail;go_ret;exact ⟨rb HR.out.symm,a2⟩
 have h8':(nT l == [48])=false:=by simpa using h8
 have hmd2:=mag_right h5;have HR:=hid (rq_gcd h1 (by omega) h4 h5 (by rw [<- hmd2];omega) h6 h7 h8)
 have hv0:0<val (DT l):=by
  rcases Nat.eq_zero_or_pos (val (DT l)) with h | h
  ·exfalso;apply h6;rw [<- Dv h5,h,dz]
  ·exact h
 have HGD:=hid (gcd_dec (right_mag h1) h5 (by omega) (by rw [<- hmd2];omega) hv0);clear hmd2 h6 h7 h8;by_cases hg:Nat.gcd (val (mg (nT l))) (val (DT l))=1
 ·have hg':(dec (Nat.gcd (val (mg (nT l))) (val (DT l))) == [49])=true:=by rw [hg,dO];rfl
  have HR2:=hid (show rQ l=true by rw [HR.out];exact decide_eq_true hg);clear HR hg;have HR:=HR2;go_enter Tryz.func149,Tryz.ntmps149;simp only [Bm];go_wp2_with fail;refine HSP.out.mono ?_;rintro e w1 ⟨rfl,hb1⟩;go_wp2_with fail;refine (HR1.out w1).mono ?_;rintro e w' ⟨rfl,h⟩;obtain rfl:=h.symm;go_wp2_with fail;refine (HD1.out w1).mono ?_;rintro e w' ⟨rfl,h⟩;obtain rfl:=h.symm
  go_wp2_with fail;refine (HD2.out w1).mono ?_;rintro e w' ⟨rfl,h⟩;obtain rfl:=h.symm;go_wp2_with fail;refine (HCT.out w1 (he.2.below hb1)).mono ?_;rintro e w2 ⟨rfl,hb2⟩;have a2:=hb1.trans (hb2.mono hb1.size);go_wp2_with fail;refine (HN.out w2).mono ?_;rintro e w' ⟨rfl,h⟩;obtain rfl:=h.symm;go_wp2_with fail;refine (ta (nT l) w2).mono ?_;rintro e w' ⟨rfl,h⟩;obtain rfl:=h.symm
  go_wp2_with fail;refine (HG.out w2 (he.1.below a2)).mono ?_;rw [HGD.out.1,HGD.out.2];rintro e w3 ⟨rfl,hb3⟩;have a3:=a2.trans (hb3.mono a2.size);go_wp2_with fail;go_ret;exact ⟨rb HR.out.symm,a3⟩
 ·have hg':(dec (Nat.gcd (val (mg (nT l))) (val (DT l))) == [49])=false:=by
   have:dec (Nat.gcd (val (mg (nT l))) (val (DT l)))≠[49]:=fun e=>hg (dec_eq_one.1 e);simpa using this
  have HR2:=hid (show rQ l=false by rw [HR.out];simpa using hg);clear HR hg;have HR:=HR2;go_enter Tryz.func149,Tryz.ntmps149;simp only [Bm];go_wp2_with fail;refine HSP.out.mono ?_;rintro e w1 ⟨rfl,hb1⟩;go_wp2_with fail;refine (HR1.out w1).mono ?_;rintro e w' ⟨rfl,h⟩;obtain rfl:=h.symm;go_wp2_with fail;refine (HD1.out w1).mono ?_;rintro e w' ⟨rfl,h⟩;obtain rfl:=h.symm;go_wp2_with fail
  refine (HD2.out w1).mono ?_;rintro e w' ⟨rfl,h⟩;obtain rfl:=h.symm;go_wp2_with fail;refine (HCT.out w1 (he.2.below hb1)).mono ?_;rintro e w2 ⟨rfl,hb2⟩;have a2:=hb1.trans (hb2.mono hb1.size);go_wp2_with fail;refine (HN.out w2).mono ?_;rintro e w' ⟨rfl,h⟩;obtain rfl:=h.symm;go_wp2_with fail;refine (ta (nT l) w2).mono ?_;rintro e w' ⟨rfl,h⟩;obtain rfl:=h.symm;go_wp2_with fail
  refine (HG.out w2 (he.1.below a2)).mono ?_;rw [HGD.out.1,HGD.out.2];rintro e w3 ⟨rfl,hb3⟩;have a3:=a2.trans (hb3.mono a2.size);go_wp2_with fail;go_ret;exact ⟨rb HR.out.symm,a3⟩
theorem pdivq_any (x:Int) (g:Nat) (w:World) (hx:dl x<=4096) (hg:(dec g).length<=4096) (h0:0<g) (ht:Tb w) :
  Calls Tryz.prog 154 #[.string (B (dI x)),.string (B (dec g))] w fun e w'=>e=.returned (.tuple #[.string (B (dI (x / (g:Int)))),.string (B (dI (x % (g:Int)))),.int .i64 0])/\Below w.heap.size w w':=by
 have hl:=Dl x;rw [<- DI g];have he:=errI_dec (x:=x) (y:=(g:Int)) hx (by rw [Dt];exact hg);have h:=pdiv_any (dI x) (dI (g:Int)) w (by omega) (by rw [DI];omega) ht;have hv:=divI_ok he (by rw [vI];omega);rw [vI,vI,(qI_pos (show (0:Int)<g by omega)).1,(qI_pos (show (0:Int)<g by omega)).2] at hv;rw [hv.1,hv.2.1,hv.2.2] at h;exact h
theorem As {a b:List UInt8} {c d:Int} (h:a=b) (h2:c=d):Ending.returned (.tuple #[.string (B a),.int .i64 c])=.returned (.tuple #[.string (B b),.int .i64 d]):=by rw [h,h2]
set_option maxHeartbeats 1000000 in
theorem qlowest_any (x:Int) (m:Nat) (w:World) (hx:dl x<=4096) (hm:(dec m).length<=4096) (h0:0<m) (ht:Tb w) :
  Calls Tryz.prog 107 #[.string (B (dI x)),.string (B (dec m))] w fun e w'=>e=.returned (.tuple #[.string (B (lowS x m)),.int .i64 0])/\Below w.heap.size w w':=by
 have hxa:(dec x.natAbs).length<=4096:=hx;have hgp:0<Nat.gcd x.natAbs m:=Nat.gcd_pos_of_pos_right _ h0;have HM:=hid (mD x);have HG:=hid (fun w ht=>gcd_any (dec x.natAbs) (dec m) w (mL (by omega)) (mL (by omega)) ht);have HGD:=hid (gcd_dec (rd x.natAbs) (rd m) hxa hm (by rw [vD];exact h0));rw [vD,vD] at HGD
 have hgl:(dec (Nat.gcd x.natAbs m)).length<=4096:=Nat.le_trans (ld (Nat.gcd_le_right _ h0)) hm;have HL:=hid (show lowS x m=Da (x / (Nat.gcd x.natAbs m:Nat)) (m / Nat.gcd x.natAbs m) from rfl);have hb:m / Nat.gcd x.natAbs m<=m:=Nat.div_le_self _ _;have ha:(x / (Nat.gcd x.natAbs m:Nat)).natAbs<=x.natAbs:=Int.natAbs_ediv_le_natAbs _ _;generalize Nat.gcd x.natAbs m=g at *
 have HD1:=hid (fun w ht=>pdivq_any x g w hx hgl hgp ht);have HD2:=hid (fun w ht=>pdivq_any (m:Int) g w (by rw [Dt];exact hm) hgl hgp ht);rw [show ((m:Int) / (g:Int))=((m / g:Nat):Int) from rfl,DI,DI] at HD2;have hdb:(dec (m / g)).length<=4096:=Nat.le_trans (ld hb) hm
 have hda:(dI (x / (g:Int))).length<=4097:=by
  have h1:=Dl (x / (g:Int));have h2:=dl_mono ha;omega
 have HDI:=hid (fun w (ht:Tb w)=>HD2.out w ht);by_cases h1:m / g=1
 ·have hq1:(dec (m / g) == [49])=true:=by rw [h1,dO];rfl
  have HR:=hid (show lowS x m=dI (x / (g:Int)) by rw [HL.out];exact if_pos h1);clear h1;go_enter Tryz.func107,Tryz.ntmps107;simp only [Bm];go_wp2_with fail;refine (ta (dI x) w).mono ?_;rw [HM.out];rintro e w' ⟨rfl,h⟩;obtain rfl:=h.symm;go_wp2_with fail;refine (HG.out w ht).mono ?_;rw [HGD.out.1,HGD.out.2];rintro e w1 ⟨rfl,hb1⟩;go_wp2_with fail
  refine (HD1.out w1 (ht.below hb1)).mono ?_;rintro e w2 ⟨rfl,hb2⟩;have a2:=hb1.trans (hb2.mono hb1.size);go_wp2_with fail;refine (HDI.out w2 (ht.below a2)).mono ?_;rintro e w3 ⟨rfl,hb3⟩;have a3:=a2.trans (hb3.mono a2.size);go_wp2_with fail;go_ret2;exact ⟨As HR.out.symm rfl,a3⟩
 ·have hq1:(dec (m / g) == [49])=false:=by
   have:dec (m / g)≠[49]:=fun e=>h1 (dec_eq_one.1 e);simpa using this
  have HR:=hid (show lowS x m=dI (x / (g:Int)) ++ 47 :: dec (m / g) by rw [HL.out];exact if_neg h1);clear h1;go_enter Tryz.func107,Tryz.ntmps107;simp only [Bm];go_wp2_with fail;refine (ta (dI x) w).mono ?_;rw [HM.out];rintro e w' ⟨rfl,h⟩;obtain rfl:=h.symm;go_wp2_with fail;refine (HG.out w ht).mono ?_;rw [HGD.out.1,HGD.out.2];rintro e w1 ⟨rfl,hb1⟩;go_wp2_with fail
  refine (HD1.out w1 (ht.below hb1)).mono ?_;rintro e w2 ⟨rfl,hb2⟩;have a2:=hb1.trans (hb2.mono hb1.size);go_wp2_with fail;refine (HDI.out w2 (ht.below a2)).mono ?_;rintro e w3 ⟨rfl,hb3⟩;have a3:=a2.trans (hb3.mono a2.size);go_wp2_with fail;go_ret2;exact ⟨As (by rw [HR.out]) rfl,a3⟩
theorem rq_parts {l:Sr} (h:rQ l=true):nT l=dI (qn l)/\DT l=dec (qd l)/\0<qd l/\dl (qn l)<=4096/\(dec (qd l)).length<=4096/\Nat.gcd (qn l).natAbs (qd l)=1/\l=Da (qn l) (qd l):=by
 obtain ⟨n,d,h1,h2,h3,h4,rfl⟩:=rightQ_out h;rw [qn_ratS,qd_ratS];exact ⟨(pS n d).1,(pS n d).2.1,h1,h3,h4,h2,rfl⟩
theorem Cn {a b c d a' b' c' d':List UInt8} {k k':Int} (h:a=a') (h1:b=b') (h2:c=c') (h3:d=d') (h4:k=k'):Ending.returned (.tuple #[.string (B a),.string (B b),.string (B c),.string (B d),.int .i64 k])=.returned (.tuple #[.string (B a'),.string (B b'),.string (B c'),.string (B d'),.int .i64 k']):=by rw [h,h1,h2,h3,h4]
def TS (a b s:Sr):Sr:=if eQ a b=0 then s else []
theorem qtwo_any (a b:List UInt8) (w:World) (ha:a.length<=1000000) (hb:b.length<=1000000) (he:Env w) :
  Calls Tryz.prog 105 #[.string (B a),.string (B b)] w fun e w'=>e=.returned (.tuple #[.string (B (TS a b (nT a))),.string (B (TS a b (DT a))),.string (B (TS a b (nT b))),.string (B (TS a b (DT b))),.int .i64 (eQ a b)])/\Below w.heap.size w w':=by
 have HSA:=hid (fun w hm=>qa a w ha hm);have HSB:=hid (fun w hm=>qa b w hb hm);have HA:=hid (rq_any a w ha he);have HB:=hid (fun w he=>rq_any b w hb he);cases h1:rQ a
 ·have HE:=hid (show eQ a b=3 by unfold eQ;rw [h1];simp)
  have HT:=hid (show ∀ s,TS a b s=[] by intro s;unfold TS;rw [HE.out];rfl);rw [h1] at HA;go_enter Tryz.func105,Tryz.ntmps105;simp only [Bm];go_wp2_with fail;refine HA.out.mono ?_;rintro e w1 ⟨rfl,hb1⟩;go_wp2_with fail;go_returns;exact ⟨Cn (HT.out _).symm (HT.out _).symm (HT.out _).symm (HT.out _).symm HE.out.symm,hb1⟩
 cases h2:rQ b
 ·have HE:=hid (show eQ a b=3 by unfold eQ;rw [h2];simp)
  have HT:=hid (show ∀ s,TS a b s=[] by intro s;unfold TS;rw [HE.out];rfl);rw [h1] at HA;rw [h2] at HB;go_enter Tryz.func105,Tryz.ntmps105;simp only [Bm];go_wp2_with fail;refine HA.out.mono ?_;rintro e w1 ⟨rfl,hb1⟩;go_wp2_with fail;refine (HB.out w1 (he.below hb1)).mono ?_;rintro e w2 ⟨rfl,hb2⟩;go_wp2_with fail;go_returns
  exact ⟨Cn (HT.out _).symm (HT.out _).symm (HT.out _).symm (HT.out _).symm HE.out.symm,hb1.trans (hb2.mono hb1.size)⟩
 have HE:=hid (show eQ a b=0 by unfold eQ;rw [h1,h2];simp);have HT:=hid (show ∀ s,TS a b s=s by intro s;unfold TS;rw [HE.out];rfl);rw [h1] at HA;rw [h2] at HB;go_enter Tryz.func105,Tryz.ntmps105;simp only [Bm];go_wp2_with fail;refine HA.out.mono ?_;rintro e w1 ⟨rfl,hb1⟩;go_wp2_with fail;refine (HB.out w1 (he.below hb1)).mono ?_;rintro e w2 ⟨rfl,hb2⟩
 have a2:=hb1.trans (hb2.mono hb1.size);go_wp2_with fail;refine (HSA.out w2 (he.2.below a2)).mono ?_;rintro e w3 ⟨rfl,hb3⟩;have a3:=a2.trans (hb3.mono a2.size);go_wp2_with fail;refine (HSB.out w3 (he.2.below a3)).mono ?_;rintro e w4 ⟨rfl,hb4⟩;go_wp2_with fail;go_returns;exact ⟨Cn (HT.out _).symm (HT.out _).symm (HT.out _).symm (HT.out _).symm HE.out.symm,a3.trans (hb4.mono a3.size)⟩
end Go.Proofs.YtjcekdiocliddaaGreatDoor

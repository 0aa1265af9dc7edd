/- sequence.ready. -/
import Derived.Test.YtjcekdiocliddaaGreatDoorG83
namespace Go.Proofs.YtjcekdiocliddaaGreatDoor
open Lib (hid)
open Go.RowKit Num Txt Pf Tk
set_option maxHeartbeats 32000000
set_option maxRecDepth 100000
set_option linter.unusedVariables false
attribute [local go_sem] BS Bg Bt Bm Be Ba
def pO (l:List (Int × Bool)) (v:Int × Bool):List (Int × Bool)->Bool
 |[]=>true
 |u :: us=>if iV v u then true else Hs l u && pO l v us
theorem preOK_drop {l own:List (Int × Bool)} {v:Int × Bool} {k:Nat} (h:k<own.length):pO l v (own.drop k)=if iV v own[k] then true else Hs l own[k] && pO l v (own.drop (k+1)):=by
 rw [List.drop_eq_getElem_cons h,pO]
def nO (x:IV) (l:List (Int × Bool)) (o:Int) (p:Int × Int):Bool:=if p.2=o then (vO x p.1).all (Hs l) else true
def rV (x:IV) (l:List (Int × Bool)) (v:Int × Bool):Bool:=!Hs l v && pO l v (vO x v.1) && x.before.all (nO x l v.1)
theorem ready_bad {x:IV} {l:List (Int × Bool)} {v:Int × Bool} {k:Nat} (hk:k<x.before.length) (h:nO x l v.1 x.before[k]=false):rV x l v=false:=by
 unfold rV
 have:x.before.all (nO x l v.1)=false:=by
  rw [List.all_eq_false];exact ⟨_,List.getElem_mem hk,by rw [h];simp⟩
 rw [this,Bool.and_false]
theorem need_bad {x:IV} {l:List (Int × Bool)} {o:Int} {p:Int × Int} {k:Nat} (he:p.2=o) (hk:k<(vO x p.1).length) (h:Hs l (vO x p.1)[k]=false):nO x l o p=false:=by
 unfold nO;rw [if_pos he,List.all_eq_false];exact ⟨_,List.getElem_mem hk,by rw [h];simp⟩
theorem need_yes {x:IV} {l:List (Int × Bool)} {o:Int} {p:Int × Int} (he:p.2=o) (h:∀ k (hk:k<(vO x p.1).length),Hs l (vO x p.1)[k]=true):nO x l o p=true:=by
 unfold nO;rw [if_pos he,List.all_eq_true];intro u hu;obtain ⟨k,hk,rfl⟩:=List.getElem_of_mem hu;exact h k hk
theorem ig {l:List (Int × Bool)} {v:Int × Bool}:IZ (iV v) l<0↔Hs l v=false:=by
 have:=Iy (iV v) l;unfold Hs;rw [<- this];constructor
 ·intro h;exact decide_eq_false (by omega)
 ·intro h;have:=of_decide_eq_false h;omega
theorem sready_any (m:IM) (l:List (Int × Bool)) (v:Int × Bool) (A:Option Addr) (c:Nat) (w:World) (hm:IA w m) (hml:m.ords.length<=3) (hc:Cs w A (l.flatMap VC)) (hn:l.length<=c/\c<=maxLen) :
  Calls Tryz.prog 132 #[iA m,.slice A l.length c,vi v] w fun e w'=>e=.returned (.bool (rV m.v l v))/\Below w.heap.size w w':=by
 obtain ⟨k1,k2,kb⟩:=aL w (.cells (iQ m) 30) (.cells #[.int .i64 v.1,.bool v.2] 92);have HB:=hid kb;have HK1:=hid k1;have HK2:=hid k2;have HC:=hid hc;have HBF:=hid hm.before;have hbl:=hm.bl;have HPL:=hid (fun (u:Int × Bool) (w':World) (hb:Below w.heap.size w w')=>vA l u A c w' (hc.below hb) hn)
 have HVI:=hid (fun (i:Int) (w':World) (hb:Below w.heap.size w w')=>Oa m i w' (hm.ords.below hb) hm.ol hml);have HBV:=hid (show m.v.before=m.before from rfl);have hib:=iZ (iV v) l;unfold maxLen at hbl hn;clear hm k1 k2 kb hc;go_enter Tryz.func132,Tryz.ntmps132;(try simp only [Bm]);go_upto_region 1 with fail;rw [iq]
 generalize (w.alloc (.cells (iQ m) 30)).alloc (.cells #[.int .i64 v.1,.bool v.2] 92)=wa at *;obtain ⟨h1,hh1⟩:∃ h1,h1=w.heap.size:=⟨_,rfl⟩
 obtain ⟨h2,hh2⟩:∃ h2,h2=w.heap.size+1:=⟨_,rfl⟩
 rw [<- hh2] at HK2;rw [<- hh1] at HK1;rw [<- hh2,<- hh1];clear hh1 hh2;go_wp2_with (refine lr HK2.out Tryz.underlying92 ?_)
 refine (HPL.out v wa HB.out).mono ?_;rintro e w1 ⟨rfl,hb1⟩;have HB1:=hid (bL HB.out hb1);have HK11:=hid (rK HK1.out hb1);have HK21:=hid (rK HK2.out hb1);clear hb1 HK1 HK2 HB;by_cases hneg:0<=IZ (iV v) l
 ·have HR:=hid (show rV m.v l v=false by
   have h:=Iy (iV v) l;rw [decide_eq_true hneg] at h;unfold rV Hs;rw [<- h];rfl)
  go_wp2_with fail;go_ret;exact ⟨rb HR.out.symm,HB1.out⟩
 ·have HH:=hid (show Hs l v=false from ig.1 (by omega))
  generalize IZ (iV v) l=iz at *;have y3:=CX HK11.out 3 (.slice m.oA m.ords.length m.oc) rfl;have y0:=CX HK21.out 0 (.int .i64 v.1) rfl;go_wp2_with fail;refine (HVI.out v.1 w1 HB1.out).mono ?_;rintro e w2 ⟨VA,vc,rfl,hown,hb2⟩;have HOW:=hid (OR.cells hown);have hcp:=OR.cap hown;have HB2:=hid (bL HB1.out hb2);have HK12:=hid (rK HK11.out hb2)
  have HK22:=hid (rK HK21.out hb2);have hfew:=vf m.v v.1;obtain ⟨own,ho⟩:∃ own,own=vO m.v v.1:=⟨_,rfl⟩
  rw [<- ho] at HOW hcp hfew;have HRD:=hid (show rV m.v l v=(pO l v own && m.v.before.all (nO m.v l v.1)) by unfold rV;rw [HH.out,<- ho];rfl);rw [<- ho];unfold maxLen at hcp;clear hown hb2 y0 y3 HK11 HK21 HB1 ho;go_upto_block 0 with fail
  go_cut [6] (fun r wx=>r=.bool false/\pO l v own=true/\wx.heap[h1]? = some (.cells (iQ m) 30)/\wx.heap[h2]? = some (.cells #[.int .i64 v.1,.bool v.2] 92)/\Below w.heap.size w wx)
  case first =>
   as_aux_lemma =>
   go_wp2_with fail;go_loopw [6,23] (fun r j wr=>∃ k:Nat,k<=own.length/\j=.int .i64 k/\r=.bool false/\pO l v (own.drop k)=pO l v own/\wr.heap[h1]? = some (.cells (iQ m) 30)/\wr.heap[h2]? = some (.cells #[.int .i64 v.1,.bool v.2] 92)/\Below w.heap.size w wr/\Below w2.heap.size w2 wr) (fun _ j _=>own.length - (intOf j).toNat)
   case atStart=>exact ⟨0,Nat.zero_le _,rfl,rfl,rfl,HK12.out,HK22.out,HB2.out,Below.refl _ _⟩
   case round =>
    clear HK12 HK22 HB2;obtain ⟨k,hk,rfl,rfl,heq,hr1,hr2,hbel,hbel2⟩:=hrel;have HE:=hid heq;have HR1:=hid hr1;have HR2:=hid hr2;have HB:=hid hbel;have HB2:=hid hbel2;clear heq hr1 hr2 hbel hbel2;by_cases hlt:k<own.length
    ·have hlt1:(k:Int)<(own.length:Int):=by omega
     obtain ⟨g1,o1,hA1,hg1,hx1⟩:=eP vC (by decide) HOW.out (by omega);have x0:=(HB2.out.cell (p:=⟨g1,o1+k*2+0,none⟩) hg1).trans (hx1 k hlt 0 _ rfl);have x1:=(HB2.out.cell (p:=⟨g1,o1+k*2+1,none⟩) hg1).trans (hx1 k hlt 1 _ rfl);rw [Nat.add_zero] at x0;have HD:=hid (preOK_drop (l:=l) (v:=v) hlt);have HE2:=hid (HD.out.symm.trans HE.out);subst hA1;clear hx1 HD HE
     obtain ⟨u,hu⟩:∃ u,u=own[k]:=⟨_,rfl⟩
     rw [<- hu] at x0 x1 HE2;clear hu;obtain ⟨n5,p5⟩:=Na wr (.cells #[.int .i64 u.1,.bool u.2] 92);go_upto_region 6 with fail;generalize hw5:wr.alloc (.cells #[.int .i64 u.1,.bool u.2] 92)=w5 at *;clear hw5;have HB5:=hid (bL HB.out n5);have HB25:=hid (bL HB2.out n5);have HR15:=hid (rK HR1.out n5);have HR25:=hid (rK HR2.out n5);have HP5:=hid p5
     obtain ⟨g5,hg5⟩:∃ g5,g5=wr.heap.size:=⟨_,rfl⟩
     rw [<- hg5] at HP5;rw [<- hg5];clear n5 p5 hg5 x0 x1 HB HB2 HR1 HR2;have hib2:=iZ (iV u) l;by_cases h0:u.1=v.1
     ·by_cases h1:u.2=v.2
      ·have HE3:=hid (show pO l v own=true by rw [<- HE2.out,if_pos (ii.2 (Prod.ext h0 h1))])
       have e0:=iB h0;have e1:(u.2 == v.2)=true:=by rw [h1];exact beq_self_eq_true _
       clear h0 h1 HE2;go_wp2_with (first | (refine lr HP5.out Tryz.underlying92 ?_) | (refine lr HR25.out Tryz.underlying92 ?_))
       go_meet;exact ⟨rfl,HE3.out,HR15.out,HR25.out,HB5.out⟩
      ·have HE3:=hid (show (Hs l u && pO l v (own.drop (k+1)))=pO l v own by rw [<- HE2.out,if_neg (fun h=>h1 (by rw [ii.1 h]))])
       have e0:=iB h0;have e1:(u.2 == v.2)=false:=beq_eq_false_iff_ne.2 h1;clear h0 h1 HE2;go_wp2_with (first | (refine lr HP5.out Tryz.underlying92 ?_) | (refine lr HR25.out Tryz.underlying92 ?_))
       refine (HPL.out u w5 HB5.out).mono ?_;rintro e w6 ⟨rfl,hb6⟩;have HB6:=hid (bL HB5.out hb6);have HB26:=hid (bL HB25.out hb6);have HR16:=hid (rK HR15.out hb6);have HR26:=hid (rK HR25.out hb6);have HNG:=hid (ig (l:=l) (v:=u));clear hb6 HB5 HB25 HR15 HR25 HP5;generalize IZ (iV u) l=iu at *;by_cases hiu:iu<0
       ·have HR:=hid (show rV m.v l v=false by rw [HRD.out,<- HE3.out,HNG.out.1 hiu];rfl)
        clear HE3 HNG;go_wp2_with fail;go_ret;exact ⟨rb HR.out.symm,HB6.out⟩
       ·have HE4:=hid (show pO l v (own.drop (k+1))=pO l v own by
         rw [<- HE3.out]
         cases hv:Hs l u with
         |true=>rfl
         |false=>exact absurd (HNG.out.2 hv) hiu)
        clear HE3 HNG;go_wp2_with fail;go_roundw
        case rel=>exact ⟨k+1,by omega,by go_num,rfl,HE4.out,HR16.out,HR26.out,HB6.out,HB26.out⟩
        case measure=>simp [intOf];omega
     ·have HE3:=hid (show (Hs l u && pO l v (own.drop (k+1)))=pO l v own by rw [<- HE2.out,if_neg (fun h=>h0 (by rw [ii.1 h]))])
      have e0:=ib h0;clear h0 HE2;go_wp2_with (first | (refine lr HP5.out Tryz.underlying92 ?_) | (refine lr HR25.out Tryz.underlying92 ?_))
      refine (HPL.out u w5 HB5.out).mono ?_;rintro e w6 ⟨rfl,hb6⟩;have HB6:=hid (bL HB5.out hb6);have HB26:=hid (bL HB25.out hb6);have HR16:=hid (rK HR15.out hb6);have HR26:=hid (rK HR25.out hb6);have HNG:=hid (ig (l:=l) (v:=u));clear hb6 HB5 HB25 HR15 HR25 HP5;generalize IZ (iV u) l=iu at *;by_cases hiu:iu<0
      ·have HR:=hid (show rV m.v l v=false by rw [HRD.out,<- HE3.out,HNG.out.1 hiu];rfl)
       clear HE3 HNG;go_wp2_with fail;go_ret;exact ⟨rb HR.out.symm,HB6.out⟩
      ·have HE4:=hid (show pO l v (own.drop (k+1))=pO l v own by
        rw [<- HE3.out]
        cases hv:Hs l u with
        |true=>rfl
        |false=>exact absurd (HNG.out.2 hv) hiu)
       clear HE3 HNG;go_wp2_with fail;go_roundw
       case rel=>exact ⟨k+1,by omega,by go_num,rfl,HE4.out,HR16.out,HR26.out,HB6.out,HB26.out⟩
       case measure=>simp [intOf];omega
    ·have hlt1:¬ (k:Int)<(own.length:Int):=by omega
     have HE3:=hid (show pO l v own=true by rw [<- HE.out,List.drop_eq_nil_of_le (by omega)];rfl);go_wp2_with fail;go_meet;exact ⟨rfl,HE3.out,HR1.out,HR2.out,HB.out⟩
  case rest =>
   rename World=>w3;obtain ⟨rfl,hpre,hk1,hk2,hb3⟩:=hcut;have HRD2:=hid (show rV m.v l v=m.v.before.all (nO m.v l v.1) by rw [HRD.out,hpre];rfl);have HK13:=hid hk1;have HK23:=hid hk2;have HB3:=hid hb3;clear hpre hk1 hk2 hb3 HK12 HK22 HB2 HRD HOW;have y4:=CX HK13.out 5 (.slice m.bA m.before.length m.bc) rfl;go_wp2_with fail;clear y4
   go_loopw [38] (fun j wr=>∃ k:Nat,k<=m.before.length/\j=.int .i64 k/\(∀ i (h:i<m.before.length),i<k->nO m.v l v.1 m.before[i]=true)/\wr.heap[h1]? = some (.cells (iQ m) 30)/\wr.heap[h2]? = some (.cells #[.int .i64 v.1,.bool v.2] 92)/\Below w.heap.size w wr) (fun j _=>m.before.length - (intOf j).toNat)
   case atStart=>exact ⟨0,Nat.zero_le _,rfl,fun i _ h=>absurd h (Nat.not_lt_zero _),HK13.out,HK23.out,HB3.out⟩
   case round =>
    clear HK13 HK23 HB3;obtain ⟨k,hk,rfl,hno,hr1,hr2,hbel⟩:=hrel;have HNO:=hid hno;have HR1:=hid hr1;have HR2:=hid hr2;have HB:=hid hbel;clear hno hr1 hr2 hbel;by_cases hlt:k<m.before.length
    ·have hlt1:(k:Int)<(m.before.length:Int):=by omega
     obtain ⟨g1,o1,hA1,hg1,hx1⟩:=eP pC (by decide) HBF.out (by omega);have x0:=(HB.out.cell (p:=⟨g1,o1+k*2+0,none⟩) hg1).trans (hx1 k hlt 0 _ rfl);have x1:=(HB.out.cell (p:=⟨g1,o1+k*2+1,none⟩) hg1).trans (hx1 k hlt 1 _ rfl);rw [Nat.add_zero] at x0
     have HNEXT:=hid (show nO m.v l v.1 m.before[k]=true->∀ i (h:i<m.before.length),i<k+1->nO m.v l v.1 m.before[i]=true from fun h i hi hik=>by
      by_cases e:i=k
      ·subst e;exact h
      ·exact HNO.out i hi (by omega))
     have HBAD:=hid (show nO m.v l v.1 m.before[k]=false->rV m.v l v=false from fun h=>ready_bad (x:=m.v) hlt h);rw [hA1];clear hx1 hA1;obtain ⟨u,hu2⟩:∃ u,u=m.before[k]:=⟨_,rfl⟩
     rw [<- hu2] at x0 x1 HBAD HNEXT;clear hu2;obtain ⟨u0,u1⟩:=u;simp only at x0 x1;obtain ⟨n5,p5⟩:=Na wr (.cells #[.int .i64 u0,.int .i64 u1] 139);go_upto_region 13 with fail;generalize hw5:wr.alloc (.cells #[.int .i64 u0,.int .i64 u1] 139)=w5 at *;clear hw5;have HB5:=hid (bL HB.out n5);have HR15:=hid (rK HR1.out n5);have HR25:=hid (rK HR2.out n5)
     obtain ⟨g5,hg5⟩:∃ g5,g5=wr.heap.size:=⟨_,rfl⟩
     rw [<- hg5] at p5;rw [<- hg5];have y0:=CX p5 0 (.int .i64 u0) rfl;have y1:=CX p5 1 (.int .i64 u1) rfl;have z0:=CX HR25.out 0 (.int .i64 v.1) rfl;have z3:=CX HR15.out 3 (.slice m.oA m.ords.length m.oc) rfl;clear n5 p5 hg5 x0 x1 HB HR1 HR2;by_cases hv:u1=v.1
     ·have hvb:=iB hv
      have HNB:=hid (fun (i:Nat) (hi:i<(vO m.v u0).length) (h:Hs l (vO m.v u0)[i]=false)=>HBAD.out (need_bad (x:=m.v) (p:=(u0,u1)) hv hi h));have HNY:=hid (fun (h:∀ i (hi:i<(vO m.v u0).length),Hs l (vO m.v u0)[i]=true)=>HNEXT.out (need_yes (x:=m.v) (p:=(u0,u1)) hv h));clear hv HNEXT HBAD HNO;go_wp2_with fail;refine (HVI.out u0 w5 HB5.out).mono ?_
      rintro e w6 ⟨NA,nc,rfl,hown,hb6⟩;have HOW:=hid (OR.cells hown);have hcp2:=OR.cap hown;have HB6:=hid (bL HB5.out hb6);have HR16:=hid (rK HR15.out hb6);have HR26:=hid (rK HR25.out hb6);have hfew2:=vf m.v u0;obtain ⟨nd,hnd⟩:∃ nd,nd=vO m.v u0:=⟨_,rfl⟩
      rw [<- hnd] at HOW hcp2 hfew2 HNB HNY;rw [<- hnd];unfold maxLen at hcp2;clear hown hb6 hnd y0 y1 z0 z3 HB5 HR15 HR25;generalize wr=wo at *;go_wp2_with fail
      go_loopw [53] (fun j wr=>∃ i:Nat,i<=nd.length/\j=.int .i64 i/\(∀ q (h:q<nd.length),q<i->Hs l nd[q]=true)/\wr.heap[h1]? = some (.cells (iQ m) 30)/\wr.heap[h2]? = some (.cells #[.int .i64 v.1,.bool v.2] 92)/\Below w.heap.size w wr/\Below w6.heap.size w6 wr) (fun j _=>nd.length - (intOf j).toNat)
      case atStart=>exact ⟨0,Nat.zero_le _,rfl,fun i _ h=>absurd h (Nat.not_lt_zero _),HR16.out,HR26.out,HB6.out,Below.refl _ _⟩
      case round =>
       clear HR16 HR26 HB6;obtain ⟨i,hi,rfl,hno,hr1,hr2,hbel,hbel2⟩:=hrel;have HNO:=hid hno;have HR1:=hid hr1;have HR2:=hid hr2;have HB:=hid hbel;have HB2:=hid hbel2;clear hno hr1 hr2 hbel hbel2;by_cases hil:i<nd.length
       ·have hil1:(i:Int)<(nd.length:Int):=by omega
        obtain ⟨g2,o2,hA2,hg2,hx2⟩:=eP vC (by decide) HOW.out (by omega);have x0:=(HB2.out.cell (p:=⟨g2,o2+i*2+0,none⟩) hg2).trans (hx2 i hil 0 _ rfl);have x1:=(HB2.out.cell (p:=⟨g2,o2+i*2+1,none⟩) hg2).trans (hx2 i hil 1 _ rfl);rw [Nat.add_zero] at x0
        have HNX:=hid (show Hs l nd[i]=true->∀ q (h:q<nd.length),q<i+1->Hs l nd[q]=true from fun h q hq hqi=>by
         by_cases e:q=i
         ·subst e;exact h
         ·exact HNO.out q hq (by omega))
        have HNB2:=hid (HNB.out i hil);rw [hA2];clear hx2 hA2 HNO;obtain ⟨y,hy⟩:∃ y,y=nd[i]:=⟨_,rfl⟩
        rw [<- hy] at x0 x1 HNX HNB2;clear hy;obtain ⟨n7,p7⟩:=Na wr (.cells #[.int .i64 y.1,.bool y.2] 92);go_upto_region 17 with fail;generalize hw7:wr.alloc (.cells #[.int .i64 y.1,.bool y.2] 92)=w7 at *;clear hw7;have HB7:=hid (bL HB.out n7);have HB27:=hid (bL HB2.out n7);have HR17:=hid (rK HR1.out n7);have HR27:=hid (rK HR2.out n7)
        have HP7:=hid p7;obtain ⟨g7,hg7⟩:∃ g7,g7=wr.heap.size:=⟨_,rfl⟩
        rw [<- hg7] at HP7;rw [<- hg7];clear n7 p7 hg7 x0 x1 HB HB2 HR1 HR2;have hib3:=iZ (iV y) l;go_wp2_with (refine lr HP7.out Tryz.underlying92 ?_)
        refine (HPL.out y w7 HB7.out).mono ?_;rintro e w8 ⟨rfl,hb8⟩;have HB8:=hid (bL HB7.out hb8);have HB28:=hid (bL HB27.out hb8);have HR18:=hid (rK HR17.out hb8);have HR28:=hid (rK HR27.out hb8);have HNG:=hid (ig (l:=l) (v:=y));clear hb8 HB7 HB27 HR17 HR27 HP7;generalize IZ (iV y) l=iy at *;by_cases hiy:iy<0
        ·have HR:=hid (HNB2.out (HNG.out.1 hiy))
         clear HNG HNX HNB2;go_wp2_with fail;go_ret;exact ⟨rb HR.out.symm,HB8.out⟩
        ·have HN:=hid (HNX.out (by
          cases hv:Hs l y with
          |true=>rfl
          |false=>exact absurd (HNG.out.2 hv) hiy))
         clear HNG HNX HNB2;go_wp2_with fail;go_roundw
         case rel=>exact ⟨i+1,by omega,by go_num,HN.out,HR18.out,HR28.out,HB8.out,HB28.out⟩
         case measure=>simp [intOf];omega
       ·have hil1:¬ (i:Int)<(nd.length:Int):=by omega
        have HN:=hid (HNY.out fun q hq=>HNO.out q hq (by omega));clear HNY HNB HNO;go_wp2_with fail;go_roundw
        case rel=>exact ⟨k+1,by omega,by go_num,HN.out,HR1.out,HR2.out,HB.out⟩
        case measure=>simp [intOf];omega
     ·have hvb:=ib hv
      have HN:=hid (HNEXT.out (by unfold nO;rw [if_neg hv]));clear hv HNEXT HBAD;go_wp2_with fail;go_roundw
      case rel=>exact ⟨k+1,by omega,by go_num,HN.out,HR15.out,HR25.out,HB5.out⟩
      case measure=>simp [intOf];omega
    ·have hlt1:¬ (k:Int)<(m.before.length:Int):=by omega
     have HR:=hid (show rV m.v l v=true by
      rw [HRD2.out,HBV.out,List.all_eq_true];exact ap (P:=fun p=>nO m.v l v.1 p=true) fun i hi=>HNO.out i hi (by omega))
     go_wp2_with fail;go_ret;exact ⟨rb HR.out.symm,HB.out⟩
def Cb (x:IV) (s:Nat) (l:List (Int × Bool)) (i:Int):List (Int × Bool):=if Aa s i && !oO x i then (vO x i).filter (rV x l) else []
def nK (x:IV) (s:Nat) (l:List (Int × Bool)) (k:Nat):List (Int × Bool):=(List.range k).flatMap fun i:Nat=>Cb x s l (i:Int)
def NV (x:IV) (s:Nat) (l:List (Int × Bool)):List (Int × Bool):=nK x s l x.ords.length
theorem nextK_succ (x:IV) (s:Nat) (l:List (Int × Bool)) (k:Nat):nK x s l (k+1)=nK x s l k ++ Cb x s l (k:Int):=by
 unfold nK;rw [List.range_succ,List.flatMap_append];simp
theorem nextO_len (x:IV) (s:Nat) (l:List (Int × Bool)) (i:Int):(Cb x s l i).length<=2:=by
 unfold Cb;split
 ·exact Nat.le_trans (List.length_filter_le _ _) (vf x i)
 ·simp
theorem nextK_len (x:IV) (s:Nat) (l:List (Int × Bool)):∀ k,(nK x s l k).length<=2*k
 |0=>by simp [nK]
 |k+1=>by
  rw [nextK_succ,List.length_append];have:=nextK_len x s l k;have:=nextO_len x s l (k:Int);omega
theorem filter_snoc {l:List (Int × Bool)} {p:Int × Bool->Bool} {k:Nat} (h:k<l.length):(l.take (k+1)).filter p=(l.take k).filter p ++ if p l[k] then [l[k]] else []:=by
 rw [List.take_add_one,List.getElem?_eq_getElem h,List.filter_append];show _ ++ List.filter p [l[k]]=_
 cases hp:p l[k] with
 |true=>simp [hp]
 |false=>simp [hp]
theorem vis_ins:92≠30:=by decide
def Away (A B:Option Addr):Prop:=∀ a b,A=some a->B=some b->a.block≠b.block
theorem oH {w:World} {Bs sz n c:Nat} {e:TypeId} {A:Option Addr} {xs:List Value} (h:OR w Bs e sz A n c xs):∀ a,A=some a->Bs<=a.block/\a.block<w.heap.size:=by
 intro a ha;rcases h.2 with ⟨hv,_⟩ | ⟨g,cap,cur,hv,hbg,hg,_⟩
 ·injection hv with hv _ _
  rw [ha] at hv;cases hv
 ·injection hv with hv _ _
  rw [ha] at hv;injection hv with hv
  subst hv;exact ⟨hbg,lh hg⟩
theorem Cs.kpa {w w':World} {A B:Option Addr} {xs:List Value} (h:Cs w A xs) (hk:KA B w w') (ha:Away A B):Cs w' A xs:=fun h0=>by
 obtain ⟨b,o,hA,hb,hx⟩:=h h0;refine ⟨b,o,hA,Nat.lt_of_lt_of_le hb hk.1,fun j u hu=>?_⟩;rw [<- hx j u hu];exact World.cell?_of_block (w:=w) (w':=w') (a:=⟨b,o+j,none⟩) (hk.2 b hb fun off sp e=>ha _ _ hA e rfl)
theorem Away.step {w:World} {A B B':Option Addr} (h:Away A B) (hB:B'=B∨∃ g,B'=some ⟨g,0,none⟩/\w.heap.size<=g) (hA:∀ a,A=some a->a.block<w.heap.size):Away A B':=by
 intro a b ha hb;rcases hB with rfl | ⟨g,rfl,hg⟩
 ·exact h a b ha hb
 ·injection hb with hb
  subst hb;have:=hA a ha;exact Nat.ne_of_lt (Nat.lt_of_lt_of_le this hg)
section
variable {P:Program} {ops:Array Oper} {rest:List Oper} {o:Oper} {a:Act} {Q:Exit->Act->World->Prop}
theorem wp_visN {t e:TypeId} {z:Value} {sz bytes:Nat} (he:ER P t e z sz bytes) (hgd:o.guard=none) (s x:Operand) (ho:o.op=.call { callee:=.builtin .append,args:=#[s,x],argTypes:=#[t,t] }) (het:e=92) (hsz:sz=2) (hby:bytes=16)
  (Bs:Nat) (A:Option Addr) (n c:Nat) (vs:List (Int × Bool)) (hn:n=vs.length) (w:World) (v:Int × Bool) (hs:a.eval s=.slice A n c) (hown:VO w Bs A c vs)
  (hx:a.eval x=.slice (some ⟨w.heap.size,0,none⟩) 1 1) (hl:vs.length<=1099511627776) (hbase:Bs<=w.heap.size)
  (h:∀ A' c' w',VO w' Bs A' c' (vs ++ [v])->Below Bs w w'->KA A w w'->(A'=A∨∃ g,A'=some ⟨g,0,none⟩/\w.heap.size<=g)->wpList P ops Q rest (a.put o.dst (.slice A' (n+1) c')) w') :
  wpList P ops Q (o :: rest) a (w.alloc (.cells #[.int .i64 v.1,.bool v.2] e)):=by
 subst het hsz hby hn;refine wp_appN he hgd s x ho Bs A vs.length c (vs.flatMap VC) w #[.int .i64 v.1,.bool v.2] hs hown hx rfl (by intro u hu;simp at hu;rcases hu with rfl | rfl <;> rfl) (by unfold maxLen;omega) (by omega) hbase ?_;intro A' c' w' h1 h2 h3 h4;have hlen:=sL vs v;have e2:(vs ++ [v]).flatMap VC=vs.flatMap VC ++ [.int .i64 v.1,.bool v.2]:=by rw [<- Fs];rfl
 exact h A' c' w' (by show OR _ _ _ _ _ _ _ _;rw [hlen,e2];exact h1) h2 h3 h4
end
def SNextE (x:IV) (s:Nat) (l:List (Int × Bool)) (w:World) (e:Ending) (w':World):Prop:=∃ (A:Option Addr) (c:Nat),e=.returned (.slice A (NV x s l).length c)/\VO w' w.heap.size A c (NV x s l)/\Below w.heap.size w w'
theorem shr_and {s i:Nat} (hs:s<1048576):bits BinOp.and IntKind.i64 ((s:Int) / 2 ^ i) 1=if s.testBit i then 1 else 0:=by
 have h0:0<=(s:Int) / 2 ^ i:=Int.ediv_nonneg (by omega) (Int.pow_nonneg (by omega));have h1:(s:Int) / 2 ^ i<=s:=Int.ediv_le_self _ (by omega);rw [mand_one _ h0 (by omega),Nat.testBit_eq_decide_div_mod_eq];have e:(s:Int) / 2 ^ i % 2=((s / 2 ^ i % 2:Nat):Int):=by rw [Int.natCast_emod,Int.natCast_ediv,Int.natCast_pow];rfl
 rw [e];by_cases h:s / 2 ^ i % 2=1
 ·rw [h,if_pos (by simp)];rfl
 ·have h2:s / 2 ^ i % 2=0:=by omega
  rw [h2,if_neg (by simp)];rfl
theorem snext_any (m:IM) (s:Nat) (l:List (Int × Bool)) (A:Option Addr) (c:Nat) (w:World) (hm:IA w m) (hml:m.ords.length<=3) (hs:s<1048576) (hc:Cs w A (l.flatMap VC)) (hn:l.length<=c/\c<=maxLen) :
  Calls Tryz.prog 82 #[iA m,.int .i64 s,.slice A l.length c] w (SNextE m.v s l w):=by
 obtain ⟨n4,p4⟩:=Na w (.cells (iQ m) 30);have HN4:=hid n4;have HK:=hid p4;have HC:=hid hc;have HO:=hid hm.ords;have hol:=hm.ol;have HRD:=hid (fun (u:Int × Bool) (w':World) (hb:Below w.heap.size w w')=>sready_any m l u A c w' (hm.below hb) hml (hc.below hb) hn)
 have HVI:=hid (fun (i:Int) (w':World) (hb:Below w.heap.size w w')=>Oa m i w' (hm.ords.below hb) hm.ol hml);have HNV:=hid (oL m);unfold maxLen at hol hn;clear hm n4 p4 hc;go_enter Tryz.func82,Tryz.ntmps82;(try simp only [Bm]);go_upto_region 1 with fail;rw [iq];generalize w.alloc (.cells (iQ m) 30)=wa at *;obtain ⟨h1,hh1⟩:∃ h1,h1=w.heap.size:=⟨_,rfl⟩
 rw [<- hh1] at HK;rw [<- hh1];have HH1:=hid hh1;clear hh1;have y3:=CX HK.out 3 (.slice m.oA m.ords.length m.oc) rfl;go_wp2_with fail;clear y3
 go_loopw [7,15] (fun u j wr=>∃ (i:Nat) (B0:Option Addr) (bc:Nat),i<=m.ords.length/\j=.int .i64 i/\u=.slice B0 (nK m.v s l i).length bc/\VO wr w.heap.size B0 bc (nK m.v s l i)/\wr.heap[h1]? = some (.cells (iQ m) 30)/\Below w.heap.size w wr) (fun _ j _=>m.ords.length - (intOf j).toNat)
 case atStart=>exact ⟨0,none,0,Nat.zero_le _,rfl,rfl,OR.nil _ _ _ _,HK.out,HN4.out⟩
 case round =>
  clear HK HN4;obtain ⟨i,B0,bc,hi,rfl,rfl,hown,hr1,hbel⟩:=hrel;have HOW:=hid hown;have HR1:=hid hr1;have HB:=hid hbel;clear hown hr1 hbel;by_cases hlt:i<m.ords.length
  ·have hlt1:(i:Int)<(m.ords.length:Int):=by omega
   obtain ⟨g2,o2,hA2,hg2,hx2⟩:=eP OM.cells_len (by decide) HO.out (by omega);have HOF:=hid (OO hlt);have q0:=(HB.out.cell (p:=⟨g2,o2+i*16+0,none⟩) hg2).trans (hx2 i hlt 0 _ rfl);have q1:=(HB.out.cell (p:=⟨g2,o2+i*16+1,none⟩) hg2).trans (hx2 i hlt 1 _ rfl);have q2:=(HB.out.cell (p:=⟨g2,o2+i*16+2,none⟩) hg2).trans (hx2 i hlt 2 _ rfl)
   have q3:=(HB.out.cell (p:=⟨g2,o2+i*16+3,none⟩) hg2).trans (hx2 i hlt 3 _ rfl);have q4:=(HB.out.cell (p:=⟨g2,o2+i*16+4,none⟩) hg2).trans (hx2 i hlt 4 _ rfl);have q5:=(HB.out.cell (p:=⟨g2,o2+i*16+5,none⟩) hg2).trans (hx2 i hlt 5 _ rfl);have q6:=(HB.out.cell (p:=⟨g2,o2+i*16+6,none⟩) hg2).trans (hx2 i hlt 6 _ rfl);have q7:=(HB.out.cell (p:=⟨g2,o2+i*16+7,none⟩) hg2).trans (hx2 i hlt 7 _ rfl)
   have q8:=(HB.out.cell (p:=⟨g2,o2+i*16+8,none⟩) hg2).trans (hx2 i hlt 8 _ rfl);have q9:=(HB.out.cell (p:=⟨g2,o2+i*16+9,none⟩) hg2).trans (hx2 i hlt 9 _ rfl);have q10:=(HB.out.cell (p:=⟨g2,o2+i*16+10,none⟩) hg2).trans (hx2 i hlt 10 _ rfl);have q11:=(HB.out.cell (p:=⟨g2,o2+i*16+11,none⟩) hg2).trans (hx2 i hlt 11 _ rfl)
   have q12:=(HB.out.cell (p:=⟨g2,o2+i*16+12,none⟩) hg2).trans (hx2 i hlt 12 _ rfl);have q13:=(HB.out.cell (p:=⟨g2,o2+i*16+13,none⟩) hg2).trans (hx2 i hlt 13 _ rfl);have q14:=(HB.out.cell (p:=⟨g2,o2+i*16+14,none⟩) hg2).trans (hx2 i hlt 14 _ rfl);have q15:=(HB.out.cell (p:=⟨g2,o2+i*16+15,none⟩) hg2).trans (hx2 i hlt 15 _ rfl);rw [Nat.add_zero] at q0;have HSU:=hid (nextK_succ m.v s l i)
   have hkl:=nextK_len m.v s l i;have hnl:=nextO_len m.v s l (i:Int);rw [hA2];clear hx2 hA2;generalize m.ords[i]=om at *
   obtain ⟨n5,p5⟩:=Na wr (.cells #[.string (B om.o.name),.slice om.A om.o.load.length om.ca,.int .i64 om.o.pick.place,.int .i64 om.o.pick.opn,.int .i64 om.o.pick.cls,.int .i64 om.o.pick.serv,.int .i64 om.o.drop.place,.int .i64 om.o.drop.opn,.int .i64 om.o.drop.cls,.int .i64 om.o.drop.serv,.int .i64 om.o.skills,.int .i64 om.o.pen,.int .i64 om.o.split,.int .i64 om.o.last,.int .i64 om.o.now,.bool om.o.off] 136)
   go_upto_region 5 with fail
   generalize hw5:wr.alloc (.cells #[.string (B om.o.name),.slice om.A om.o.load.length om.ca,.int .i64 om.o.pick.place,.int .i64 om.o.pick.opn,.int .i64 om.o.pick.cls,.int .i64 om.o.pick.serv,.int .i64 om.o.drop.place,.int .i64 om.o.drop.opn,.int .i64 om.o.drop.cls,.int .i64 om.o.drop.serv,.int .i64 om.o.skills,.int .i64 om.o.pen,.int .i64 om.o.split,.int .i64 om.o.last,.int .i64 om.o.now,.bool om.o.off] 136)=w5 at *
   clear hw5;have HB5:=hid (bL HB.out n5);have HR15:=hid (rK HR1.out n5);have HOW5:=hid (OR.below HOW.out n5);obtain ⟨g5,hg5⟩:∃ g5,g5=wr.heap.size:=⟨_,rfl⟩
   rw [<- hg5] at p5;rw [<- hg5];have z15:=CX p5 15 (.bool om.o.off) rfl;have z3:=CX HR15.out 3 (.slice m.oA m.ords.length m.oc) rfl;clear n5 p5 hg5 HB HR1 HOW q0 q1 q2 q3 q4 q5 q6 q7 q8 q9 q10 q11 q12 q13 q14 q15;have HSA:=hid (shr_and (s:=s) (i:=i) hs);have HHB:=hid (Ht (s:=s) (o:=i) (by omega))
   have hd0:0<=(s:Int) / 2 ^ i:=Int.ediv_nonneg (by omega) (Int.pow_nonneg (by omega));obtain ⟨off,hoff⟩:∃ off,off=om.o.off:=⟨_,rfl⟩
   rw [<- hoff] at HOF z15;clear hoff
   cases htb:s.testBit i with
   |false =>
    have hsa:=HSA.out;rw [htb,if_neg (by decide)] at hsa;have HE:=hid (show nK m.v s l (i+1)=nK m.v s l i by rw [HSU.out];unfold Cb;rw [HHB.out,htb];simp);clear HSA HHB htb HSU hkl hnl;go_wp2_with fail;go_roundw
    case rel=>exact ⟨i+1,B0,bc,by omega,by go_num,by rw [HE.out],by rw [HE.out];exact HOW5.out,HR15.out,HB5.out⟩
    case measure=>simp [intOf];omega
   |true =>
    have hsa:=HSA.out;rw [htb,if_pos rfl] at hsa
    cases off with
    |true =>
     have HE:=hid (show nK m.v s l (i+1)=nK m.v s l i by rw [HSU.out];unfold Cb;rw [HOF.out];simp);clear HSA HHB htb HSU hkl hnl HOF;go_wp2_with fail;go_roundw
     case rel=>exact ⟨i+1,B0,bc,by omega,by go_num,by rw [HE.out],by rw [HE.out];exact HOW5.out,HR15.out,HB5.out⟩
     case measure=>simp [intOf];omega
    |false =>
     have HE:=hid (show nK m.v s l (i+1)=nK m.v s l i ++ (vO m.v i).filter (rV m.v l) by rw [HSU.out];unfold Cb;rw [HHB.out,htb,HOF.out];rfl);clear HSA HHB htb HSU HOF;go_wp2_with fail;refine (HVI.out (i:Int) w5 HB5.out).mono ?_;rintro e w6 ⟨NA,nc,rfl,hown,hb6⟩;have HVO:=hid (OR.cells hown)
     have HAW:=hid (show Away NA B0 from fun a b ha hb=>Nat.ne_of_gt (Nat.lt_of_lt_of_le (oH HOW5.out b hb).2 (oH hown a ha).1));have HNH:=hid (fun a (ha:NA=some a)=>(oH hown a ha).2);have hcp2:=OR.cap hown;have HB6:=hid (bL HB5.out hb6);have HR16:=hid (rK HR15.out hb6);have HOW6:=hid (OR.below HOW5.out hb6);have hfew2:=vf m.v i
     obtain ⟨nd,hnd⟩:∃ nd,nd=vO m.v i:=⟨_,rfl⟩
     rw [<- hnd] at HVO hcp2 hfew2 HE;rw [<- hnd];unfold maxLen at hcp2;clear hown hb6 hnd z15 z3 HB5 HR15 HOW5 hsa;obtain ⟨ks,hks⟩:∃ ks,ks=nK m.v s l i:=⟨_,rfl⟩
     rw [<- hks] at HOW6 HE hkl;rw [<- hks];clear hks;generalize wr=wo at *;go_wp2_with fail
     go_loopw [7,38] (fun u j wr=>∃ (q:Nat) (B1:Option Addr) (b1:Nat) (us:List (Int × Bool)),q<=nd.length/\j=.int .i64 q/\u=.slice B1 us.length b1/\us=ks ++ (nd.take q).filter (rV m.v l)/\VO wr w.heap.size B1 b1 us/\wr.heap[h1]? = some (.cells (iQ m) 30)/\Below w.heap.size w wr/\Cs wr NA (nd.flatMap VC)/\Away NA B1/\(∀ a,NA=some a->a.block<wr.heap.size)) (fun _ j _=>nd.length - (intOf j).toNat)
     case atStart=>exact ⟨0,B0,bc,ks,Nat.zero_le _,rfl,rfl,by simp,HOW6.out,HR16.out,HB6.out,HVO.out,HAW.out,HNH.out⟩
     case round =>
      clear HR16 HB6 HOW6 HVO HAW HNH;obtain ⟨q,B1,b1,us,hq,rfl,rfl,hus,hown,hr1,hbel,hvc,haw,hnh⟩:=hrel;have HUS:=hid hus;clear hus;have HAW:=hid haw;have HNH:=hid hnh;clear haw hnh;have HOW:=hid hown;have HR1:=hid hr1;have HB:=hid hbel;have HVO:=hid hvc;clear hown hr1 hbel hvc;by_cases hil:q<nd.length
      ·have hil1:(q:Int)<(nd.length:Int):=by omega
       obtain ⟨g3,o3,hA3,hg3,hx3⟩:=eP vC (by decide) HVO.out (by omega);have x0:=hx3 q hil 0 _ rfl;have x1:=hx3 q hil 1 _ rfl;rw [Nat.add_zero] at x0;have HFS:=hid (filter_snoc (p:=rV m.v l) hil);have hfl:=List.length_filter_le (rV m.v l) (nd.take q);rw [List.length_take] at hfl;have hln:us.length<=64:=by rw [HUS.out,List.length_append];omega
       subst hA3;clear hx3;obtain ⟨y,hy⟩:∃ y,y=nd[q]:=⟨_,rfl⟩
       rw [<- hy] at x0 x1 HFS;clear hy;obtain ⟨n7,p7⟩:=Na wr (.cells #[.int .i64 y.1,.bool y.2] 92);go_upto_region 9 with fail;generalize hw7:wr.alloc (.cells #[.int .i64 y.1,.bool y.2] 92)=w7 at *;clear hw7;have HB7:=hid (bL HB.out n7);have HR17:=hid (rK HR1.out n7);have HOW7:=hid (OR.below HOW.out n7);have HVO7:=hid (HVO.out.below n7);have HS7:=hid n7.size
       have HP7:=hid p7;obtain ⟨g7,hg7⟩:∃ g7,g7=wr.heap.size:=⟨_,rfl⟩
       rw [<- hg7] at HP7;rw [<- hg7];clear n7 p7 hg7 x0 x1 HB HR1 HOW HVO;go_wp2_with (first | (refine lr HR17.out Tryz.underlying30 ?_) | (refine lr HP7.out Tryz.underlying92 ?_))
       refine (HRD.out y w7 HB7.out).mono ?_;rintro e w8 ⟨rfl,hb8⟩;have HB8:=hid (bL HB7.out hb8);have HR18:=hid (rK HR17.out hb8);have HOW8:=hid (OR.below HOW7.out hb8);have HVO8:=hid (HVO7.out.below hb8);have HNH8:=hid (fun a ha=>Nat.lt_of_lt_of_le (HNH.out a ha) (Nat.le_trans HS7.out hb8.size));have HP8:=hid (rK HP7.out hb8)
       clear hb8 HB7 HR17 HOW7 HVO7 HP7
       cases hrv:rV m.v l y with
       |false =>
        have HN:=hid (show us=ks ++ (nd.take (q+1)).filter (rV m.v l) by rw [HUS.out,HFS.out,hrv];simp);clear hrv HFS;go_wp2_with fail;go_roundw
        case rel=>exact ⟨q+1,B1,b1,us,by omega,by go_num,rfl,HN.out,HOW8.out,HR18.out,HB8.out,HVO8.out,HAW.out,HNH8.out⟩
        case measure=>simp [intOf];omega
       |true =>
        have HN:=hid (show us ++ [y]=ks ++ (nd.take (q+1)).filter (rV m.v l) by rw [HUS.out,HFS.out,hrv,List.append_assoc];rfl);clear hrv HFS
        go_wp2_with (first | (refine lr HP8.out Tryz.underlying92 ?_) | (at_builtin;go_loud (refine wp_visN ep rfl _ _ rfl rfl rfl rfl w.heap.size B1 us.length b1 us rfl w8 y rfl HOW8.out rfl (by omega) HB8.out.size ?_;intro A4 c4 w9 hown9 hb9 hkp9 hwh9)))
        have HR19:=hid (hkp9.row HR18.out (HOW8.out.far HR18.out vis_ins));have HVO9:=hid (HVO8.out.kpa hkp9 HAW.out);have HAW9:=hid (HAW.out.step hwh9 HNH8.out);have HNH9:=hid (fun a ha=>Nat.lt_of_lt_of_le (HNH8.out a ha) hkp9.1);have HOW9:=hid hown9;have HB9:=hid (HB8.out.trans hb9);clear hown9 hb9 hkp9 hwh9;go_roundw
        case rel=>exact ⟨q+1,A4,c4,us ++ [y],by omega,by go_num,by rw [sL],HN.out,HOW9.out,HR19.out,HB9.out,HVO9.out,HAW9.out,HNH9.out⟩
        case measure=>simp [intOf];omega
      ·have hil1:¬ (q:Int)<(nd.length:Int):=by omega
       have HN:=hid (show nK m.v s l (i+1)=us by rw [HE.out,HUS.out,List.take_of_length_le (by omega)]);go_wp2_with fail;go_roundw
       case rel=>exact ⟨i+1,B1,b1,by omega,by go_num,by rw [HN.out],by rw [HN.out];exact HOW.out,HR1.out,HB.out⟩
       case measure=>simp [intOf];omega
  ·have hlt1:¬ (i:Int)<(m.ords.length:Int):=by omega
   have HE:=hid (show NV m.v s l=nK m.v s l i by unfold NV;rw [HNV.out,show m.ords.length=i by omega]);go_wp2_with fail;go_ret;exact ⟨B0,bc,by rw [HE.out];rfl,by rw [HE.out];exact HOW.out,HB.out⟩
structure KT (ts:List TypeId) (w w':World):Prop where
 size:w.heap.size<=w'.heap.size
 row:∀ (k:Nat) (cs:Array Value) (e:TypeId) (z:Nat × Nat),w.heap[k]? = some (.cells cs e z)->e ∉ ts->w'.heap[k]? = some (.cells cs e z)
theorem KT.refl (ts:List TypeId) (w:World):KT ts w w:=⟨Nat.le_refl _,fun _ _ _ _ h _=>h⟩
theorem KT.trans {ts:List TypeId} {a b c:World} (h:KT ts a b) (k:KT ts b c):KT ts a c:=⟨Nat.le_trans h.size k.size,fun i cs e z hi he=>k.row i cs e z (h.row i cs e z hi he) he⟩
theorem KT.below {ts:List TypeId} {w w':World} (hb:Below w.heap.size w w'):KT ts w w':=⟨hb.size,fun k cs e z h _=>rK h hb⟩
theorem KT.store {ts:List TypeId} {w:World} {g j:Nat} {v:Value} {cs:Array Value} {e:TypeId} {z:Nat × Nat} (h:w.heap[g]? = some (.cells cs e z)) (he:e ∈ ts):KT ts w (w.setCell ⟨g,j,none⟩ v):=by
 refine ⟨by simp [World.setCell],fun k cs2 e2 z2 hk he2=>?_⟩;rw [Below.heap_setCell _ _ _ _ (fun e3=>?_)]
 ·exact hk
 ·simp only at e3
  subst e3;rw [h] at hk;injection hk with hk
  injection hk with _ hk _
  subst hk;exact he2 he
theorem KT.storeRow {ts:List TypeId} {w:World} {g:Nat} {new cs:Array Value} {e:TypeId} {z:Nat × Nat} (h:w.heap[g]? = some (.cells cs e z)) (he:e ∈ ts):KT ts w (w.setRow g new):=by
 refine ⟨by simp,fun k cs2 e2 z2 hk he2=>?_⟩;rw [setRow_other _ _ _ _ (fun e3=>?_)]
 ·exact hk
 ·subst e3
  rw [h] at hk;injection hk with hk
  injection hk with _ hk _
  subst hk;exact he2 he
theorem KT.kpa {ts:List TypeId} {w w':World} {Bs sz n c:Nat} {e:TypeId} {A:Option Addr} {xs:List Value} (hk:KA A w w') (ho:OR w Bs e sz A n c xs) (he:e ∈ ts):KT ts w w':=by
 refine ⟨hk.1,fun k cs e2 z hrow he2=>?_⟩;rw [hk.2 k (lh hrow) (ho.far hrow fun h=>he2 (h ▸ he))];exact hrow
theorem OR.keptT {w w':World} {ts:List TypeId} {Bs sz n c:Nat} {e:TypeId} {A:Option Addr} {xs:List Value} (h:OR w Bs e sz A n c xs) (hk:KT ts w w') (he:e ∉ ts):OR w' Bs e sz A n c xs:=by
 refine OR.keep h fun b hA=>?_;subst hA;obtain ⟨_,_,cur,h3⟩:=h.typ;rw [hk.row _ _ _ _ h3 he,h3]
structure FR (Bs:Nat) (ts:List TypeId) (w w':World):Prop where
 bel:Below Bs w w'
 kt:KT ts w w'
theorem FR.refl (Bs:Nat) (ts:List TypeId) (w:World):FR Bs ts w w:=⟨Below.refl _ _,KT.refl _ _⟩
theorem FR.trans {Bs:Nat} {ts:List TypeId} {a b c:World} (h:FR Bs ts a b) (k:FR Bs ts b c):FR Bs ts a c:=⟨h.bel.trans k.bel,h.kt.trans k.kt⟩
theorem FR.below {Bs:Nat} {ts:List TypeId} {w w':World} (hb:Below w.heap.size w w') (hB:Bs<=w.heap.size):FR Bs ts w w':=⟨hb.mono hB,KT.below hb⟩
theorem run_app_full {P:Program} {t ty e:TypeId} {z:Value} {sz bytes:Nat} (he:ER P t e z sz bytes) (w:World) (A:Option Addr) (n:Nat) (xs:List Value) (hcl:Cs w A xs) (hlen:xs.length=n*sz) (hA:A=none->n=0)
  (ad:Addr) (us:List Value) (hul:us.length=sz) (hu:∀ j u,us[j]? = some u->w.cell? (ad.add j)=some u) (h63:n+1<=maxLen) (hby:(n+1)*bytes<=140737488355328) :
  ∃ A' c' w',(Builtin.append_ #[t,t] ty #[.slice A n n,.slice (some ad) 1 1]).run P w=.ok (.slice A' (n+1) c') w'/\OR w' w.heap.size e sz A' (n+1) c' (xs ++ us)/\Below w.heap.size w w':=by
 obtain ⟨ht,⟨i,hi,hz,hsz,hb⟩,hzs,hpos⟩:=he;subst hsz hb;have hul1:us.length=1*i.size:=by omega
 have h64:((n+1:Nat):Int)<=9223372036854775807:=by unfold maxLen at h63;omega
 have hall:(xs ++ us).length=(n+1)*i.size:=by rw [List.length_append,hlen,hul,Nat.add_mul];omega
 have grown:∀ (old:Nat) (ys:List Value),ys=xs ->
   OR (w.drew.alloc (.cells (ys.toArray ++ us.toArray ++ Builtin.zeroCells z.cells (grownCap w (n+1) old e - (n+1))) e)) w.heap.size e i.size (some ⟨w.heap.size,0,none⟩) (n+1) (grownCap w (n+1) old e) (xs ++ us) /\
   Below w.heap.size w (w.drew.alloc (.cells (ys.toArray ++ us.toArray ++ Builtin.zeroCells z.cells (grownCap w (n+1) old e - (n+1))) e)):=by
  intro old ys hys;subst hys;have hge:=grownCap_ge w (n+1) old e;have hcm:grownCap w (n+1) old e<=maxLen:=grownCap_le_maxLen w (n+1) old e h63;refine ⟨⟨hall,.inr ⟨w.heap.size,_,_,rfl,Nat.le_refl _,heap_alloc_new w.drew _,hge,hcm,?_,?_⟩⟩,(Below.refl _ w).drew.alloc (Nat.le_refl _) _⟩
  ·simp only [Array.size_append,List.size_toArray,size_zeroCells,hzs,hlen,hul1,<- Nat.add_mul]
   congr 1
   omega
  ·simp only [Array.toList_append,List.append_assoc]
   rw [<- List.append_assoc,<- hall];exact List.take_left
 cases A with
 |none =>
  have hn:=hA rfl;subst hn;have hx:xs=[]:=List.eq_nil_of_length_eq_zero (by simpa using hlen);subst hx;have hr:=run_append_nil (P:=P) w t ty e i z ht hi hz ad 1 1 us hul1 hu (by decide) (by decide) (by simpa using Nat.le_trans hby (by decide));have hg:=grown 0 [] rfl;simp only [Nat.zero_add,List.nil_append,Array.empty_append] at hg ⊢;exact ⟨_,_,_,hr,hg.1,hg.2⟩
 |some b =>
  have holds:∀ j u,xs[j]? = some u->w.cell? (b.add j)=some u:=by
   intro j u hj;have hjl:=(List.getElem?_eq_some_iff.1 hj).1;obtain ⟨bk,o,hb2,_,hx⟩:=hcl (by omega);injection hb2 with hb2
   subst hb2;rw [Go.WideShapes.add_plain];exact hx j u hj
  have hr:=run_append_grow (P:=P) w t ty e i z ht hi hz b n n xs hlen holds ad 1 1 us hul1 hu (by omega) h64 (growslice_fits (by omega) hby);have hg:=grown n xs rfl;exact ⟨_,_,_,hr,hg.1,hg.2⟩
section
variable {P:Program} {o:Oper} {a:Act} {w:World} {K:Act->World->Prop} {Q:Exit->Act->World->Prop}
theorem Wc {t e:TypeId} {z:Value} {sz bytes:Nat} (he:ER P t e z sz bytes) (s x:Operand) (ho:o.op=.call { callee:=.builtin .append,args:=#[s,x],argTypes:=#[t,t] })
  (A:Option Addr) (n:Nat) (xs:List Value) (hs:a.eval s=.slice A n n) (hcl:Cs w A xs) (hlen:xs.length=n*sz) (hA:A=none->n=0)
  (ad:Addr) (us:List Value) (hx:a.eval x=.slice (some ad) 1 1) (hul:us.length=sz) (hu:∀ j u,us[j]? = some u->w.cell? (ad.add j)=some u) (h63:n+1<=maxLen) (hby:(n+1)*bytes<=140737488355328)
  (h:∀ A' c' w',OR w' w.heap.size e sz A' (n+1) c' (xs ++ us)->Below w.heap.size w w'->K (a.put o.dst (.slice A' (n+1) c')) w'):o.wp P a w K Q:=by
 obtain ⟨A',c',w',hr,h1,h2⟩:=run_app_full (ty:=o.type) he w A n xs hcl hlen hA ad us hul hu h63 hby;unfold Oper.wp execOp;simp only [ho,resolve,invoke,builtin,Sem.run_bind,Sem.run_pure,Result.andThen_ok,List.map_toArray,List.map_cons,List.map_nil,hs,hx,hr];exact h A' c' w' h1 h2
end
theorem cA (A:Option Addr) (n c:Nat) (w:World) (hn:n<=c/\c<=maxLen):Calls Tryz.prog 84 #[.slice A n c] w fun e w'=>e=.returned (.slice A n n)/\w'=w:=by
 unfold maxLen at hn;go_enter Tryz.func84,Tryz.ntmps84;go_wp2_with fail;go_ret;exact ⟨rfl,rfl⟩
structure SM where
 A:Option Addr
 c:Nat
 l:List (Int × Bool)
def SM.val (m:SM):Value:=.slice m.A m.l.length m.c
def seqC (m:SM):List Value:=[m.val]
theorem seqC_len (m:SM):(seqC m).length=1:=rfl
theorem seq_info:(Tryz.prog.info? 32).map (fun i=>(i.zero,i.size,i.bytes))=some (some (.slice none 0 0),1,24):=by kernel_rfl
theorem el_seq:ER Tryz.prog 105 32 (.slice none 0 0) 1 24:=⟨Tryz.underlying105,info_parts seq_info,rfl,by decide⟩
structure Bl (w:World) (Bs:Nat) (A:Option Addr) (c:Nat) (ms:List SM):Prop where
 row:OR w Bs 32 1 A ms.length c (ms.flatMap seqC)
 each:∀ m ∈ ms,VO w Bs m.A m.c m.l
theorem Bl.below {w w':World} {Bs:Nat} {A:Option Addr} {c:Nat} {ms:List SM} (h:Bl w Bs A c ms) (hb:Below w.heap.size w w'):Bl w' Bs A c ms:=⟨OR.below h.row hb,fun m hm=>OR.below (h.each m hm) hb⟩
theorem vis_seq:92≠32:=by decide
section
variable {P:Program} {ops:Array Oper} {rest:List Oper} {o:Oper} {a:Act} {Q:Exit->Act->World->Prop}
theorem wp_seq {t e:TypeId} {z:Value} {sz bytes:Nat} (he:ER P t e z sz bytes) (hgd:o.guard=none) (s x:Operand) (ho:o.op=.call { callee:=.builtin .append,args:=#[s,x],argTypes:=#[t,t] }) (het:e=32) (hsz:sz=1) (hby:bytes=24)
  (Bs:Nat) (A:Option Addr) (n c:Nat) (ms:List SM) (hn:n=ms.length) (w:World) (k:SM) (hs:a.eval s=.slice A n c) (hown:Bl w Bs A c ms) (hk:VO w Bs k.A k.c k.l)
  (hx:a.eval x=.slice (some ⟨w.heap.size,0,none⟩) 1 1) (hl:ms.length<=1000000) (hbase:Bs<=w.heap.size)
  (h:∀ A' c' w',Bl w' Bs A' c' (ms ++ [k])->Below Bs w w'->KA A w w'->wpList P ops Q rest (a.put o.dst (.slice A' (n+1) c')) w') :
  wpList P ops Q (o :: rest) a (w.alloc (.cells #[k.val] e)):=by
 subst het hsz hby hn;refine wk he hgd s x ho Bs A ms.length c (ms.flatMap seqC) w #[k.val] hs hown.row hx rfl (by intro u hu;simp at hu;subst hu;rfl) (by unfold maxLen;omega) (by omega) hbase ?_;intro A' c' w' h1 h2 h3;have hlen:=sL ms k;have e2:(ms ++ [k]).flatMap seqC=ms.flatMap seqC ++ [k.val]:=by rw [<- Fs];rfl
 refine h A' c' w' ⟨by rw [hlen,e2];exact h1,fun m hm=>?_⟩ h2 h3;rcases List.mem_append.1 hm with hm | hm
 ·exact OR.keptA (hown.each m hm) h3 hown.row vis_seq
 ·rw [List.mem_singleton.1 hm]
  exact OR.keptA hk h3 hown.row vis_seq
end
end Go.Proofs.YtjcekdiocliddaaGreatDoor

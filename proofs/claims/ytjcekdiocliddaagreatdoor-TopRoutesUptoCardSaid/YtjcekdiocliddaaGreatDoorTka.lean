/- lorryref11.rules. -/
import Derived.Test.YtjcekdiocliddaaGreatDoorTk9
namespace Go.Proofs.YtjcekdiocliddaaGreatDoor
open Lib (hid)
open Go.RowKit Num Txt Pf Tk
set_option maxHeartbeats 32000000
set_option maxRecDepth 100000
set_option linter.unusedVariables false
attribute [local go_sem] BS Bg Bt Bm Be Ba
theorem ord_at {w:World} {A:Option Addr} {l:List OM} (h:Cs w A (l.flatMap OM.cells)) (h0:0<l.length) :
  ∃ b off,A=some ⟨b,off,none⟩/\b<w.heap.size/\∀ i (hi:i<l.length) j v,(l[i].cells)[j]? = some v->w.cell? ⟨b,off+i*16+j,none⟩=some v:=eP OM.cells_len (by decide) h h0
def oR (m:OM):Array Value:=#[.string (B m.o.name),.slice m.A m.o.load.length m.ca,.int .i64 m.o.pick.place,.int .i64 m.o.pick.opn,.int .i64 m.o.pick.cls,.int .i64 m.o.pick.serv,.int .i64 m.o.drop.place,.int .i64 m.o.drop.opn,.int .i64 m.o.drop.cls,.int .i64 m.o.drop.serv,.int .i64 m.o.skills,.int .i64 m.o.pen,.int .i64 m.o.split,.int .i64 m.o.last,.int .i64 m.o.now,.bool m.o.off]
def S2 (m:OM):Prop:=SK m.o.pick/\SK m.o.drop
def R6 (d:Int) (m:OM):Prop:=rB m.o.load d=true
def P2 (m:OM):Prop:=m.o.pick.place ≠ -1∨m.o.drop.place ≠ -1
def S4 (m:OM):Prop:=IR m.o.skills 0 1073741823=true
theorem ordX_of {d:Int} {m:OM} (h1:R6 d m) (h2:P2 m) (h3:S4 m):OrdX d m.o:=by
 unfold R6 rB at h1;simp only [Bool.and_eq_true,beq_iff_eq,List.all_eq_true] at h1;exact ⟨h1.1,fun n hn=>iR.1 (h1.2 n hn),iR.1 h3,h2⟩
theorem rules11_any (np d ty:Int) (l:List OM) (A:Option Addr) (c i:Nat) (w:World) (hnp:-9000<=np/\np<=1048576) (hc:Cs w A (l.flatMap OM.cells)) (hn:l.length<=c/\c<=maxLen) (hi:i<l.length) (hf:∀ t ∈ l,Ot w t) :
  Calls Tryz.prog 103 #[.int .i64 np,.int .i64 d,.int .i64 ty,.slice A l.length c,.int .i64 i] w (ErE w 8 (S2 l[i]/\OrdX d l[i].o)):=by
 have HF:=hid hf;have HC:=hid hc;have HN:=hid hn;unfold maxLen at hn;obtain ⟨g1,o1,hA1,hg1,hx⟩:=ord_at hc (by omega);subst hA1;have hi1:(i:Int)<(l.length:Int):=by omega
 have q0:=hx i hi 0 _ rfl;have q1:=hx i hi 1 _ rfl;have q2:=hx i hi 2 _ rfl;have q3:=hx i hi 3 _ rfl;have q4:=hx i hi 4 _ rfl;have q5:=hx i hi 5 _ rfl;have q6:=hx i hi 6 _ rfl;have q7:=hx i hi 7 _ rfl;have q8:=hx i hi 8 _ rfl;have q9:=hx i hi 9 _ rfl;have q10:=hx i hi 10 _ rfl;have q11:=hx i hi 11 _ rfl;have q12:=hx i hi 12 _ rfl;have q13:=hx i hi 13 _ rfl;have q14:=hx i hi 14 _ rfl
 have q15:=hx i hi 15 _ rfl;rw [Nat.add_zero] at q0;have hma:=hf _ (List.getElem_mem hi);obtain ⟨m,hm⟩:∃ m,l[i]=m:=⟨_,rfl⟩
 rw [hm] at hma q0 q1 q2 q3 q4 q5 q6 q7 q8 q9 q10 q11 q12 q13 q14 q15;obtain ⟨n5,p5⟩:=Na w (.cells (oR m) 136);have HMA:=hid hma;have HB5:=hid n5;have HP5:=hid p5;have HM:=hid hm;have HNL:=hid (fun t ht=>(hf t ht).name);have HX:=hid (fun (wn:World) (hb:Below w.heap.size w wn) k (hk:k<l.length)=>(hb.cell (p:=⟨g1,o1+k*16,none⟩) hg1).trans (hx k hk 0 _ rfl))
 clear hc hf n5 p5 hm hx hma;go_enter Tryz.func103,Tryz.ntmps103;(try simp only [Bm]);go_upto_region 3 with fail;clear q0 q1 q2 q3 q4 q5 q6 q7 q8 q9 q10 q11 q12 q13 q14 q15
 rw [show w.alloc (.cells #[.string (B m.o.name),.slice m.A m.o.load.length m.ca,.int .i64 m.o.pick.place,.int .i64 m.o.pick.opn,.int .i64 m.o.pick.cls,.int .i64 m.o.pick.serv,.int .i64 m.o.drop.place,.int .i64 m.o.drop.opn,.int .i64 m.o.drop.cls,.int .i64 m.o.drop.serv,.int .i64 m.o.skills,.int .i64 m.o.pen,.int .i64 m.o.split,.int .i64 m.o.last,.int .i64 m.o.now,.bool m.o.off] 136)=w.alloc (.cells (oR m) 136) from rfl]
 generalize w.alloc (.cells (oR m) 136)=wd0 at *;obtain ⟨g5,hg5⟩:∃ g5,g5=w.heap.size:=⟨_,rfl⟩
 rw [<- hg5] at HP5;rw [<- hg5];clear hg5 hg1;have HO:=hid (show ErO wd0 w.heap.size none 0 [] from OR.nil _ _ _ _);have HFI:=hid (show ∀ e ∈ ([]:List Int),fits e from fun _ h=>absurd h (by simp));have HPR:=hid (show ([]:List Int)=[]->True from fun _=>trivial);have HBE:=HB5;have HK:=HP5;have hlen:([]:List Int).length<=0:=Nat.le_refl _;clear HB5 HP5;go_upto_region 3 with fail
 go_cut [22] (fun s wx=>(∃ b:Bool,s=.bool b/\(b=false->True))/\Below wd0.heap.size wd0 wx)
 case first =>
  as_aux_lemma =>
  have c0:=cN HK.out 0 (.string (B m.o.name)) rfl;have hln:=HMA.out.name;go_wp2_with fail;refine (Ry m.o.name _ hln).mono ?_;rintro e w2 ⟨rfl,rfl⟩;go_wp2_with fail;go_meet;exact ⟨⟨_,rfl,fun _=>trivial⟩,Below.refl _ _⟩
 case rest =>
  rename World=>we1;obtain ⟨⟨b,rfl,hbf⟩,hb⟩:=hcut;have HBF:=hid hbf;have HO2:=hid (HO.out.below hb);have HBE2:=hid (bL HBE.out hb);have HK2:=hid (show (fun wx=>wx.heap[g5]? = some (.cells (oR m) 136)) we1 from rK HK.out hb);clear hbf hb HO HBE HK;go_upto_if 22 with (fail)
  go_cut [11] (ErR w 1 (fun wx=>wx.heap[g5]? = some (.cells (oR m) 136)) (True))
  case first =>
   as_aux_lemma =>
   cases b with
   |true =>
    go_wp2_with (at_builtin;refine We ee rfl _ _ rfl rfl rfl rfl w.heap.size none 0 ([]:List Int) we1 5 rfl HO2.out rfl (by omega) HBE2.out.size ?_;intro A3 c3 w6 hown6 hb6 hkp6)
    go_meet;exact ⟨A3,c3,_,by first | rfl | rw [sL],hown6,by rw [sL];omega,fS HFI.out (by decide),sN,HBE2.out.trans hb6,hkp6.row HK2.out (HO2.out.far HK2.out et)⟩
   |false =>
    go_wp2_with fail;go_meet;exact ⟨none,0,([]:List Int),rfl,HO2.out,by omega,HFI.out,fun h=>trivial,HBE2.out,HK2.out⟩
  case rest =>
   rename World=>wd1;clear HO2 HFI HPR HBE2 HK2 HBF hlen;obtain ⟨A1,c1,es,rfl,hown,hlen,hfi,hpr,hbe,hk⟩:=hcut;have HO:=hid hown;have HFI:=hid hfi;have HPR:=hid hpr;have HBE:=hid hbe;have HK:=hid hk;clear hown hfi hpr hbe hk;go_upto_block 0 with fail;go_cut [11] (ErR w 2 (fun wx=>wx.heap[g5]? = some (.cells (oR m) 136)) (True))
   case first =>
    as_aux_lemma =>
    go_wp2_with fail;go_loopw [11,13] (fun l2 i2 wr=>∃ k:Nat,k<=i/\i2=.int .i64 k/\l2=.slice A1 es.length c1/\Below wd1.heap.size wd1 wr) (fun _ i2 _=>i - (intOf i2).toNat)
    case atStart=>exact ⟨0,Nat.zero_le _,rfl,rfl,Below.refl _ _⟩
    case round =>
     obtain ⟨k,hk,rfl,rfl,hbr⟩:=hrel;have HBR:=hid (bL HBE.out hbr);have HOR:=hid (HO.out.below hbr);have HKR:=hid (rK HK.out hbr);have HQ:=hid (show ∀ nq,Below wd1.heap.size wd1 (wr.drewN nq) from fun nq=>below_drewN hbr nq);clear hbr;by_cases hlt:k<i
     ·have hlt1:(k:Int)<(i:Int):=by omega
      have hlt2:k<l.length:=by omega
      have hlt3:(k:Int)<(l.length:Int):=by omega
      have q0:=HX.out wr HBR.out k hlt2;have c0:=cN HKR.out 0 (.string (B m.o.name)) rfl;have hl1:=HNL.out _ (List.getElem_mem hlt2);have hl2:=HMA.out.name;unfold maxLen at hl1 hl2;generalize l[k]=v at *;by_cases hnm:v.o.name=m.o.name
      ·have hnb:=str_bt hnm
       clear hnm;go_wp2_with fail;go_quiet (fail)
       have HO4:=hid (HOR.out.below (below_drewN (Below.refl _ _) nq));have HB4:=hid (below_drewN HBR.out nq);have HK4:=hid (rK HKR.out (below_drewN (Below.refl _ _) nq));go_wp2_with (at_builtin;refine We ee rfl _ _ rfl rfl rfl rfl w.heap.size A1 c1 es _ 6 rfl HO4.out rfl (by omega) HB4.out.size ?_;intro A3 c3 w6 hown6 hb6 hkp6)
       go_meet;exact ⟨A3,c3,_,by first | rfl | rw [sL],hown6,by rw [sL];omega,fS HFI.out (by decide),sN,HB4.out.trans hb6,hkp6.row HK4.out (HO4.out.far HK4.out et)⟩
      ·have hnb:=str_bf hnm
       clear hnm;go_wp2_with fail;go_quiet (fail)
       go_wp2_with fail;go_roundw
       case rel=>exact ⟨k+1,by omega,by go_num,rfl,HQ.out nq⟩
       case measure=>simp [intOf];omega
     ·have hlt1:¬ (k:Int)<(i:Int):=by omega
      go_wp2_with fail;go_meet;exact ⟨A1,c1,es,rfl,HOR.out,by omega,HFI.out,fun _=>trivial,HBR.out,HKR.out⟩
   case rest =>
    rename World=>wdL;clear HO HFI HPR HBE HK hlen;obtain ⟨A1,c1,es,rfl,hown,hlen,hfi,hpr,hbe,hk⟩:=hcut;have HO:=hid hown;have HFI:=hid hfi;have HPR:=hid hpr;have HBE:=hid hbe;have HK:=hid hk;clear hown hfi hpr hbe hk;go_upto_region 10 with fail;go_cut [46] (fun s wx=>(∃ b:Bool,s=.bool b/\(b=false->R6 d m))/\Below wdL.heap.size wdL wx)
    case first =>
     as_aux_lemma =>
     have c1:=cN HK.out 1 (.slice m.A m.o.load.length m.ca) rfl;go_wp2_with fail;refine (right06_any m.o.load _ _ d _ (HMA.out.below HBE.out).load HMA.out.ll).mono ?_;rintro e w2 ⟨rfl,rfl⟩;go_wp2_with fail;go_meet;exact ⟨⟨_,rfl,fun h=>by simpa [R6] using h⟩,Below.refl _ _⟩
    case rest =>
     rename World=>we3;obtain ⟨⟨b,rfl,hbf⟩,hb⟩:=hcut;have HBF:=hid hbf;have HO2:=hid (HO.out.below hb);have HBE2:=hid (bL HBE.out hb);have HK2:=hid (show (fun wx=>wx.heap[g5]? = some (.cells (oR m) 136)) we3 from rK HK.out hb);clear hbf hb HO HBE HK;go_upto_if 46 with (fail)
     go_cut [11] (ErR w 3 (fun wx=>wx.heap[g5]? = some (.cells (oR m) 136)) (R6 d m))
     case first =>
      as_aux_lemma =>
      cases b with
      |true =>
       go_wp2_with (at_builtin;refine We ee rfl _ _ rfl rfl rfl rfl w.heap.size A1 c1 es we3 17 rfl HO2.out rfl (by omega) HBE2.out.size ?_;intro A3 c3 w6 hown6 hb6 hkp6)
       go_meet;exact ⟨A3,c3,_,by first | rfl | rw [sL],hown6,by rw [sL];omega,fS HFI.out (by decide),sN,HBE2.out.trans hb6,hkp6.row HK2.out (HO2.out.far HK2.out et)⟩
      |false =>
       go_wp2_with fail;go_meet;exact ⟨A1,c1,es,rfl,HO2.out,by omega,HFI.out,fun h=>(by first | exact HBF.out rfl | exact HBF.out trivial | exact HBF.out),HBE2.out,HK2.out⟩
     case rest =>
      rename World=>wd3;clear HO2 HFI HPR HBE2 HK2 HBF hlen;obtain ⟨A1,c1,es,rfl,hown,hlen,hfi,hpr,hbe,hk⟩:=hcut;have HO:=hid hown;have HFI:=hid hfi;have HPR:=hid hpr;have HBE:=hid hbe;have HK:=hid hk;clear hown hfi hpr hbe hk;go_upto_region 12 with fail;go_cut [65] (fun s wx=>(∃ b:Bool,s=.bool b/\(b=false->True))/\Below wd3.heap.size wd3 wx)
      case first =>
       as_aux_lemma =>
       have c2:=cN HK.out 2 (.int .i64 m.o.pick.place) rfl;have c6:=cN HK.out 6 (.int .i64 m.o.drop.place) rfl;go_wp2_with fail;refine (iY m.o.pick.place (-1) (np - 1) _).mono ?_;rintro e w2 ⟨rfl,rfl⟩
       cases hb0:IR m.o.pick.place (-1) (np - 1) with
       |false =>
        clear hb0;go_wp2_with fail;go_meet;exact ⟨⟨true,rfl,fun h=>absurd h (by decide)⟩,Below.refl _ _⟩
       |true =>
        have HI0:=hid hb0;clear hb0;go_wp2_with fail;refine (iY m.o.drop.place (-1) (np - 1) _).mono ?_;rintro e w2 ⟨rfl,rfl⟩
        cases hb1:IR m.o.drop.place (-1) (np - 1) with
        |false =>
         clear hb1;go_wp2_with fail;go_meet;exact ⟨⟨true,rfl,fun h=>absurd h (by decide)⟩,Below.refl _ _⟩
        |true =>
         have HI1:=hid hb1;clear hb1;go_wp2_with fail;go_meet;exact ⟨⟨false,rfl,fun _=>trivial⟩,Below.refl _ _⟩
      case rest =>
       rename World=>we4;obtain ⟨⟨b,rfl,hbf⟩,hb⟩:=hcut;have HBF:=hid hbf;have HO2:=hid (HO.out.below hb);have HBE2:=hid (bL HBE.out hb);have HK2:=hid (show (fun wx=>wx.heap[g5]? = some (.cells (oR m) 136)) we4 from rK HK.out hb);clear hbf hb HO HBE HK;go_upto_if 65 with (fail)
       go_cut [11] (ErR w 4 (fun wx=>wx.heap[g5]? = some (.cells (oR m) 136)) (R6 d m))
       case first =>
        as_aux_lemma =>
        cases b with
        |true =>
         go_wp2_with (at_builtin;refine We ee rfl _ _ rfl rfl rfl rfl w.heap.size A1 c1 es we4 11 rfl HO2.out rfl (by omega) HBE2.out.size ?_;intro A3 c3 w6 hown6 hb6 hkp6)
         go_meet;exact ⟨A3,c3,_,by first | rfl | rw [sL],hown6,by rw [sL];omega,fS HFI.out (by decide),sN,HBE2.out.trans hb6,hkp6.row HK2.out (HO2.out.far HK2.out et)⟩
        |false =>
         go_wp2_with fail;go_meet;exact ⟨A1,c1,es,rfl,HO2.out,by omega,HFI.out,fun h=>HPR.out h,HBE2.out,HK2.out⟩
       case rest =>
        rename World=>wd4;clear HO2 HFI HPR HBE2 HK2 HBF hlen;obtain ⟨A1,c1,es,rfl,hown,hlen,hfi,hpr,hbe,hk⟩:=hcut;have HO:=hid hown;have HFI:=hid hfi;have HPR:=hid hpr;have HBE:=hid hbe;have HK:=hid hk;clear hown hfi hpr hbe hk;go_upto_region 14 with fail;go_cut [78] (fun s wx=>(∃ b:Bool,s=.bool b/\(b=false->P2 m))/\Below wd4.heap.size wd4 wx)
        case first =>
         as_aux_lemma =>
         have c2:=cN HK.out 2 (.int .i64 m.o.pick.place) rfl;have c6:=cN HK.out 6 (.int .i64 m.o.drop.place) rfl;by_cases hc0:m.o.pick.place = -1
         ·have he0:=iB hc0
          by_cases hc1:m.o.drop.place = -1
          ·have he1:=iB hc1
           clear hc0 hc1;go_wp2_with fail;go_meet;exact ⟨⟨true,rfl,fun h=>absurd h (by decide)⟩,Below.refl _ _⟩
          ·have he1:=ib hc1
           have HC:=hid hc1;clear hc0 hc1;go_wp2_with fail;go_meet;exact ⟨⟨false,rfl,fun _=>Or.inr HC.out⟩,Below.refl _ _⟩
         ·have he0:=ib hc0
          have HC:=hid hc0;clear hc0;go_wp2_with fail;go_meet;exact ⟨⟨false,rfl,fun _=>Or.inl HC.out⟩,Below.refl _ _⟩
        case rest =>
         rename World=>we5;obtain ⟨⟨b,rfl,hbf⟩,hb⟩:=hcut;have HBF:=hid hbf;have HO2:=hid (HO.out.below hb);have HBE2:=hid (bL HBE.out hb);have HK2:=hid (show (fun wx=>wx.heap[g5]? = some (.cells (oR m) 136)) we5 from rK HK.out hb);clear hbf hb HO HBE HK;go_upto_if 78 with (fail)
         go_cut [11] (ErR w 5 (fun wx=>wx.heap[g5]? = some (.cells (oR m) 136)) (R6 d m/\P2 m))
         case first =>
          as_aux_lemma =>
          cases b with
          |true =>
           go_wp2_with (at_builtin;refine We ee rfl _ _ rfl rfl rfl rfl w.heap.size A1 c1 es we5 19 rfl HO2.out rfl (by omega) HBE2.out.size ?_;intro A3 c3 w6 hown6 hb6 hkp6)
           go_meet;exact ⟨A3,c3,_,by first | rfl | rw [sL],hown6,by rw [sL];omega,fS HFI.out (by decide),sN,HBE2.out.trans hb6,hkp6.row HK2.out (HO2.out.far HK2.out et)⟩
          |false =>
           go_wp2_with fail;go_meet;exact ⟨A1,c1,es,rfl,HO2.out,by omega,HFI.out,fun h=>⟨HPR.out h,(by first | exact HBF.out rfl | exact HBF.out trivial | exact HBF.out)⟩,HBE2.out,HK2.out⟩
         case rest =>
          rename World=>wd5;clear HO2 HFI HPR HBE2 HK2 HBF hlen;obtain ⟨A1,c1,es,rfl,hown,hlen,hfi,hpr,hbe,hk⟩:=hcut;have HO:=hid hown;have HFI:=hid hfi;have HPR:=hid hpr;have HBE:=hid hbe;have HK:=hid hk;clear hown hfi hpr hbe hk;go_upto_region 16 with fail;go_cut [91] (fun s wx=>(∃ b:Bool,s=.bool b/\(b=false->S2 m))/\Below wd5.heap.size wd5 wx)
          case first =>
           as_aux_lemma =>
           have c2:=cN HK.out 2 (.int .i64 m.o.pick.place) rfl;have c3:=cN HK.out 3 (.int .i64 m.o.pick.opn) rfl;have c4:=cN HK.out 4 (.int .i64 m.o.pick.cls) rfl;have c5:=cN HK.out 5 (.int .i64 m.o.pick.serv) rfl;have c6:=cN HK.out 6 (.int .i64 m.o.drop.place) rfl;have c7:=cN HK.out 7 (.int .i64 m.o.drop.opn) rfl;have c8:=cN HK.out 8 (.int .i64 m.o.drop.cls) rfl
           have c9:=cN HK.out 9 (.int .i64 m.o.drop.serv) rfl;go_wp2_with fail;refine (C0 m.o.pick _ HMA.out.pick).mono ?_;rintro e w2 ⟨⟨n1,rfl,hn1⟩,hb2⟩;have HN1:=hid hn1;clear hn1;by_cases hz:n1=0
           ·have hzb:(n1 != 0)=false:=by rw [hz];rfl
            have HZ:=hid hz;clear hz c2 c3 c4 c5 c6 c7 c8 c9;have hr2:=rK HK.out hb2;have c6:=cN hr2 6 (.int .i64 m.o.drop.place) rfl;have c7:=cN hr2 7 (.int .i64 m.o.drop.opn) rfl;have c8:=cN hr2 8 (.int .i64 m.o.drop.cls) rfl;have c9:=cN hr2 9 (.int .i64 m.o.drop.serv) rfl;have HB2:=hid hb2;clear hr2 hb2;go_wp2_with fail
            refine (C0 m.o.drop _ HMA.out.drop).mono ?_;rintro e w3 ⟨⟨n2,rfl,hn2⟩,hb3⟩;have HN2:=hid hn2;clear hn2;by_cases hz2:n2=0
            ·have hzb2:(n2 != 0)=false:=by rw [hz2];rfl
             have HZ2:=hid hz2;clear hz2;go_wp2_with fail;go_meet;exact ⟨⟨false,rfl,fun _=>⟨HN1.out HZ.out,HN2.out HZ2.out⟩⟩,bL HB2.out hb3⟩
            ·have hzb2:(n2 != 0)=true:=by simpa using hz2
             clear hz2;go_wp2_with fail;go_meet;exact ⟨⟨true,rfl,fun h=>absurd h (by decide)⟩,bL HB2.out hb3⟩
           ·have hzb:(n1 != 0)=true:=by simpa using hz
            clear hz;go_wp2_with fail;go_meet;exact ⟨⟨true,rfl,fun h=>absurd h (by decide)⟩,hb2⟩
          case rest =>
           rename World=>we6;obtain ⟨⟨b,rfl,hbf⟩,hb⟩:=hcut;have HBF:=hid hbf;have HO2:=hid (HO.out.below hb);have HBE2:=hid (bL HBE.out hb);have HK2:=hid (show (fun wx=>wx.heap[g5]? = some (.cells (oR m) 136)) we6 from rK HK.out hb);clear hbf hb HO HBE HK;go_upto_if 91 with (fail)
           go_cut [11] (ErR w 6 (fun wx=>wx.heap[g5]? = some (.cells (oR m) 136)) ((R6 d m/\P2 m)/\S2 m))
           case first =>
            as_aux_lemma =>
            cases b with
            |true =>
             go_wp2_with (at_builtin;refine We ee rfl _ _ rfl rfl rfl rfl w.heap.size A1 c1 es we6 14 rfl HO2.out rfl (by omega) HBE2.out.size ?_;intro A3 c3 w6 hown6 hb6 hkp6)
             go_meet;exact ⟨A3,c3,_,by first | rfl | rw [sL],hown6,by rw [sL];omega,fS HFI.out (by decide),sN,HBE2.out.trans hb6,hkp6.row HK2.out (HO2.out.far HK2.out et)⟩
            |false =>
             go_wp2_with fail;go_meet;exact ⟨A1,c1,es,rfl,HO2.out,by omega,HFI.out,fun h=>⟨HPR.out h,(by first | exact HBF.out rfl | exact HBF.out trivial | exact HBF.out)⟩,HBE2.out,HK2.out⟩
           case rest =>
            rename World=>wd6;clear HO2 HFI HPR HBE2 HK2 HBF hlen;obtain ⟨A1,c1,es,rfl,hown,hlen,hfi,hpr,hbe,hk⟩:=hcut;have HO:=hid hown;have HFI:=hid hfi;have HPR:=hid hpr;have HBE:=hid hbe;have HK:=hid hk;clear hown hfi hpr hbe hk;go_upto_region 18 with fail;go_cut [98] (fun s wx=>(∃ b:Bool,s=.bool b/\(b=false->S4 m))/\Below wd6.heap.size wd6 wx)
            case first =>
             as_aux_lemma =>
             have c10:=cN HK.out 10 (.int .i64 m.o.skills) rfl;go_wp2_with fail;refine (iY m.o.skills 0 1073741823 _).mono ?_;rintro e w2 ⟨rfl,rfl⟩
             cases hb0:IR m.o.skills 0 1073741823 with
             |false =>
              clear hb0;go_wp2_with fail;go_meet;exact ⟨⟨true,rfl,fun h=>absurd h (by decide)⟩,Below.refl _ _⟩
             |true =>
              have HI0:=hid hb0;clear hb0;go_wp2_with fail;go_meet;exact ⟨⟨false,rfl,fun _=>HI0.out⟩,Below.refl _ _⟩
            case rest =>
             rename World=>we7;obtain ⟨⟨b,rfl,hbf⟩,hb⟩:=hcut;have HBF:=hid hbf;have HO2:=hid (HO.out.below hb);have HBE2:=hid (bL HBE.out hb);have HK2:=hid (show (fun wx=>wx.heap[g5]? = some (.cells (oR m) 136)) we7 from rK HK.out hb);clear hbf hb HO HBE HK;go_upto_if 98 with (fail)
             go_cut [11] (ErR w 7 (fun wx=>wx.heap[g5]? = some (.cells (oR m) 136)) (((R6 d m/\P2 m)/\S2 m)/\S4 m))
             case first =>
              as_aux_lemma =>
              cases b with
              |true =>
               go_wp2_with (at_builtin;refine We ee rfl _ _ rfl rfl rfl rfl w.heap.size A1 c1 es we7 18 rfl HO2.out rfl (by omega) HBE2.out.size ?_;intro A3 c3 w6 hown6 hb6 hkp6)
               go_meet;exact ⟨A3,c3,_,by first | rfl | rw [sL],hown6,by rw [sL];omega,fS HFI.out (by decide),sN,HBE2.out.trans hb6,hkp6.row HK2.out (HO2.out.far HK2.out et)⟩
              |false =>
               go_wp2_with fail;go_meet;exact ⟨A1,c1,es,rfl,HO2.out,by omega,HFI.out,fun h=>⟨HPR.out h,(by first | exact HBF.out rfl | exact HBF.out trivial | exact HBF.out)⟩,HBE2.out,HK2.out⟩
             case rest =>
              rename World=>wd7;clear HO2 HFI HPR HBE2 HK2 HBF hlen;obtain ⟨A1,c1,es,rfl,hown,hlen,hfi,hpr,hbe,hk⟩:=hcut;have HO:=hid hown;have HFI:=hid hfi;have HPR:=hid hpr;have HBE:=hid hbe;have HK:=hid hk;clear hown hfi hpr hbe hk;go_upto_region 20 with fail;go_cut [14] (fun s wx=>(∃ b:Bool,s=.bool b)/\Below wd7.heap.size wd7 wx)
              case first =>
               as_aux_lemma =>
               have c2:=cN HK.out 2 (.int .i64 m.o.pick.place) rfl;have c6:=cN HK.out 6 (.int .i64 m.o.drop.place) rfl;by_cases hc0:m.o.pick.place = -1
               ·have he0:(m.o.pick.place != -1)=false:=by rw [hc0];rfl
                clear hc0;go_wp2_with fail;go_meet;exact ⟨⟨_,rfl⟩,Below.refl _ _⟩
               ·have he0:(m.o.pick.place != -1)=true:=by simpa using hc0
                clear hc0;go_wp2_with fail;go_meet;exact ⟨⟨_,rfl⟩,Below.refl _ _⟩
              case rest =>
               rename World=>wdB;obtain ⟨⟨bb,rfl⟩,hb⟩:=hcut;have HO2:=hid (HO.out.below hb);have HBE2:=hid (bL HBE.out hb);have HK2:=hid (rK HK.out hb);clear hb HO HBE HK;have HO:=HO2;have HBE:=HBE2;have HK:=HK2;clear HO2 HBE2 HK2;go_upto_region 21 with fail;go_cut [151] (fun s wx=>(∃ b:Bool,s=.bool b/\(b=false->True))/\Below wdB.heap.size wdB wx)
               case first =>
                as_aux_lemma =>
                have c11:=cN HK.out 11 (.int .i64 m.o.pen) rfl;have c12:=cN HK.out 12 (.int .i64 m.o.split) rfl;have c13:=cN HK.out 13 (.int .i64 m.o.last) rfl;have c14:=cN HK.out 14 (.int .i64 m.o.now) rfl;go_wp2_with fail;refine (iY m.o.pen (-1) 1000000 _).mono ?_;rintro e w2 ⟨rfl,rfl⟩
                cases hb0:IR m.o.pen (-1) 1000000 with
                |false =>
                 clear hb0;go_wp2_with fail;go_meet;exact ⟨⟨true,rfl,fun h=>absurd h (by decide)⟩,Below.refl _ _⟩
                |true =>
                 have HI0:=hid hb0;clear hb0;go_wp2_with fail;refine (iY m.o.split 1 4 _).mono ?_;rintro e w2 ⟨rfl,rfl⟩
                 cases hb1:IR m.o.split 1 4 with
                 |false =>
                  clear hb1;go_wp2_with fail;go_meet;exact ⟨⟨true,rfl,fun h=>absurd h (by decide)⟩,Below.refl _ _⟩
                 |true =>
                  have HI1:=hid hb1;clear hb1;by_cases hs:m.o.split > 1
                  ·have hds:decide (m.o.split > 1)=true:=decide_eq_true hs
                   cases bb with
                   |true =>
                    go_wp2_with fail;go_meet;exact ⟨⟨true,rfl,fun h=>absurd h (by decide)⟩,Below.refl _ _⟩
                   |false =>
                    by_cases hc0:m.o.last < -1
                    ·have hd0:decide (m.o.last < -1)=true:=decide_eq_true hc0
                     go_wp2_with fail;go_meet;exact ⟨⟨true,rfl,fun h=>absurd h (by decide)⟩,Below.refl _ _⟩
                    ·have hd0:decide (m.o.last < -1)=false:=decide_eq_false hc0
                     by_cases hc1:m.o.last >= ty
                     ·have hd1:decide (m.o.last >= ty)=true:=decide_eq_true hc1
                      go_wp2_with fail;go_meet;exact ⟨⟨true,rfl,fun h=>absurd h (by decide)⟩,Below.refl _ _⟩
                     ·have hd1:decide (m.o.last >= ty)=false:=decide_eq_false hc1
                      by_cases hc2:m.o.now < -1
                      ·have hd2:decide (m.o.now < -1)=true:=decide_eq_true hc2
                       go_wp2_with fail;go_meet;exact ⟨⟨true,rfl,fun h=>absurd h (by decide)⟩,Below.refl _ _⟩
                      ·have hd2:decide (m.o.now < -1)=false:=decide_eq_false hc2
                       by_cases hc3:m.o.now >= ty
                       ·have hd3:decide (m.o.now >= ty)=true:=decide_eq_true hc3
                        go_wp2_with fail;go_meet;exact ⟨⟨true,rfl,fun h=>absurd h (by decide)⟩,Below.refl _ _⟩
                       ·have hd3:decide (m.o.now >= ty)=false:=decide_eq_false hc3
                        go_wp2_with fail;go_meet;exact ⟨⟨false,rfl,fun _=>trivial⟩,Below.refl _ _⟩
                  ·have hds:decide (m.o.split > 1)=false:=decide_eq_false hs
                   by_cases hc0:m.o.last < -1
                   ·have hd0:decide (m.o.last < -1)=true:=decide_eq_true hc0
                    go_wp2_with fail;go_meet;exact ⟨⟨true,rfl,fun h=>absurd h (by decide)⟩,Below.refl _ _⟩
                   ·have hd0:decide (m.o.last < -1)=false:=decide_eq_false hc0
                    by_cases hc1:m.o.last >= ty
                    ·have hd1:decide (m.o.last >= ty)=true:=decide_eq_true hc1
                     go_wp2_with fail;go_meet;exact ⟨⟨true,rfl,fun h=>absurd h (by decide)⟩,Below.refl _ _⟩
                    ·have hd1:decide (m.o.last >= ty)=false:=decide_eq_false hc1
                     by_cases hc2:m.o.now < -1
                     ·have hd2:decide (m.o.now < -1)=true:=decide_eq_true hc2
                      go_wp2_with fail;go_meet;exact ⟨⟨true,rfl,fun h=>absurd h (by decide)⟩,Below.refl _ _⟩
                     ·have hd2:decide (m.o.now < -1)=false:=decide_eq_false hc2
                      by_cases hc3:m.o.now >= ty
                      ·have hd3:decide (m.o.now >= ty)=true:=decide_eq_true hc3
                       go_wp2_with fail;go_meet;exact ⟨⟨true,rfl,fun h=>absurd h (by decide)⟩,Below.refl _ _⟩
                      ·have hd3:decide (m.o.now >= ty)=false:=decide_eq_false hc3
                       go_wp2_with fail;go_meet;exact ⟨⟨false,rfl,fun _=>trivial⟩,Below.refl _ _⟩
               case rest =>
                rename World=>we8;obtain ⟨⟨b,rfl,hbf⟩,hb⟩:=hcut;have HBF:=hid hbf;have HO2:=hid (HO.out.below hb);have HBE2:=hid (bL HBE.out hb);have HK2:=hid (show (fun wx=>wx.heap[g5]? = some (.cells (oR m) 136)) we8 from rK HK.out hb);clear hbf hb HO HBE HK;go_upto_if 151 with (fail)
                go_cut [11] (ErR w 8 (fun wx=>wx.heap[g5]? = some (.cells (oR m) 136)) (((R6 d m/\P2 m)/\S2 m)/\S4 m))
                case first =>
                 as_aux_lemma =>
                 cases b with
                 |true =>
                  go_wp2_with (at_builtin;refine We ee rfl _ _ rfl rfl rfl rfl w.heap.size A1 c1 es we8 2 rfl HO2.out rfl (by omega) HBE2.out.size ?_;intro A3 c3 w6 hown6 hb6 hkp6)
                  go_meet;exact ⟨A3,c3,_,by first | rfl | rw [sL],hown6,by rw [sL];omega,fS HFI.out (by decide),sN,HBE2.out.trans hb6,hkp6.row HK2.out (HO2.out.far HK2.out et)⟩
                 |false =>
                  go_wp2_with fail;go_meet;exact ⟨A1,c1,es,rfl,HO2.out,by omega,HFI.out,fun h=>HPR.out h,HBE2.out,HK2.out⟩
                case rest =>
                 rename World=>wd8;clear HO2 HFI HPR HBE2 HK2 HBF hlen;obtain ⟨A1,c1,es,rfl,hown,hlen,hfi,hpr,hbe,hk⟩:=hcut;have HO:=hid hown;have HFI:=hid hfi;have HPR:=hid hpr;have HBE:=hid hbe;have HK:=hid hk;clear hown hfi hpr hbe hk;go_wp2_with fail;go_ret
                 exact ⟨A1,c1,es,rfl,HO.out,hlen,HFI.out,fun h=>by rw [HM.out];exact ⟨(HPR.out h).1.2,ordX_of (HPR.out h).1.1.1 (HPR.out h).1.1.2 (HPR.out h).2⟩,HBE.out⟩
end Go.Proofs.YtjcekdiocliddaaGreatDoor

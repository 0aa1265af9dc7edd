/- lorryref09.checkArc. -/
import Derived.Test.YtjcekdiocliddaaGreatDoorG73
namespace Go.Proofs.YtjcekdiocliddaaGreatDoor
open Lib (hid)
open Go.RowKit Num Txt Pf Tk
set_option maxHeartbeats 32000000
set_option maxRecDepth 100000
set_option linter.unusedVariables false
attribute [local go_sem] BS Bg Bt Bm Be Ba
theorem arc_at {w:World} {A:Option Addr} {l:List AM} (h:Cs w A (l.flatMap AM.cells)) (h0:0<l.length) :
  ∃ b off,A=some ⟨b,off,none⟩/\b<w.heap.size/\∀ i (hi:i<l.length) j v,(l[i].cells)[j]? = some v->w.cell? ⟨b,off+i*6+j,none⟩=some v:=eP AM.cells_len (by decide) h h0
def aR (m:AM):Array Value:=#[.int .i64 m.a.frm,.int .i64 m.a.tgt,.int .i64 m.a.prof,.int .i64 m.a.miles,.slice m.A m.a.trav.length m.ca,.slice m.C m.a.slow.length m.cc]
def FlR (w0:World) (n S:Nat) (K:World->Prop) (pre:Prop) (l:Value) (wx:World):Prop :=
 ∃ (A:Option Addr) (c:Nat) (fs:List (Int × Sr)),l=.slice A fs.length c/\FO wx w0.heap.size A c fs/\fs.length<=n/\fZ S fs/\(fs=[]->pre)/\Below w0.heap.size w0 wx/\K wx
theorem fa:193≠188:=by decide
def QA1 (m:AM):Prop:=0<=m.a.miles/\m.a.miles<=10000
def QA2 (m:AM):Prop:=QA1 m/\PO m.a.trav
def QA3 (m:AM):Prop:=QA2 m/\m.a.slow.length<=16
def tick2 (p:Int × Int):Bool:=IR p.1 0 4096 && IR p.2 0 4096
theorem tick2_iff {p:Int × Int}:tick2 p=true↔iT p.1/\iT p.2:=by unfold tick2 iT;rw [Bool.and_eq_true,iR,iR]
theorem arcOK_of {m:AM} (h:QA3 m) (h2:∀ p ∈ m.a.slow,iT p.1/\iT p.2):AK m.a:=⟨h.1.2,⟨h.2,h2⟩,h.1.1⟩
theorem ckarc_any (np:Nat) (pA:Option Addr) (pc:Nat) (l:List AM) (A:Option Addr) (c i:Nat) (w:World) (hp:np<=1048576) (hc:Cs w A (l.flatMap AM.cells)) (hn:l.length<=c/\c<=maxLen) (hl:l.length<=1048576) (hi:i<l.length) (hf:∀ t ∈ l,AR w t) (ht:l[i].a.trav.length<=1048576) (hs:l[i].a.slow.length<=1048576) :
  Calls Tryz.prog 99 #[.agg #[.slice pA np pc,.slice A l.length c],.int .i64 i] w (FlE 4000000 30 (AK l[i].a) w):=by
 have HF:=hid hf;have HC:=hid hc;have HN:=hid hn;unfold maxLen at hn;obtain ⟨g1,o1,hA1,hg1,hx⟩:=arc_at hc (by omega);subst hA1;have hi1:(i:Int)<(l.length:Int):=by omega
 obtain ⟨n4,p4⟩:=Na w (.cells #[.slice pA np pc,.slice (some ⟨g1,o1,none⟩) l.length c] 25);have hk64:fits (i:Int):=by unfold fits;omega
 have HDC:=hid (fun w2:World=>rA (i:Int) w2 hk64);have hdl:=Pf.decI_len hk64;have hma:=hf _ (List.getElem_mem hi);have HX:=hid (fun (wn:World) (hb:Below w.heap.size w wn) (k:Nat) (hk:k<l.length) (j:Nat) (v:Value) (hv:(l[k].cells)[j]? = some v)=>(hb.cell (p:=⟨g1,o1+k*6+j,none⟩) hg1).trans (hx k hk j v hv));clear hk64 hx;obtain ⟨m,hm⟩:∃ m,l[i]=m:=⟨_,rfl⟩
 rw [hm] at hma ht hs;have HMA:=hid hma;have HM:=hid hm;have HN4:=hid n4;have HP4:=hid p4;clear hc hf n4 p4 hma hm;go_enter Tryz.func99,Tryz.ntmps99;(try simp only [Bm]);go_upto_region 2 with fail;generalize w.alloc (.cells #[.slice pA np pc,.slice (some ⟨g1,o1,none⟩) l.length c] 25)=wa at *;obtain ⟨g4,hg4⟩:∃ g4,g4=w.heap.size:=⟨_,rfl⟩
 rw [<- hg4] at HP4;rw [<- hg4];clear hg4;go_wp2_with fail;refine (HDC.out _).mono ?_;rintro e w3 ⟨rfl,hb3⟩;have HB3:=hid (bL HN4.out hb3);have HP3:=hid (rK HP4.out hb3);clear hb3 HN4 HP4 HDC;go_upto_region 3 with fail;have HP5:=hid (fun wn (hb:Below w.heap.size w wn)=>HX.out wn hb i hi);have q0:=HP5.out w3 HB3.out 0 _ rfl;have q1:=HP5.out w3 HB3.out 1 _ rfl
 have q2:=HP5.out w3 HB3.out 2 _ rfl;have q3:=HP5.out w3 HB3.out 3 _ rfl;have q4:=HP5.out w3 HB3.out 4 _ rfl;have q5:=HP5.out w3 HB3.out 5 _ rfl;rw [Nat.add_zero] at q0;rw [HM.out] at q0 q1 q2 q3 q4 q5;have r1:=cN HP3.out 1 (.slice (some ⟨g1,o1,none⟩) l.length c) rfl;obtain ⟨n5,p5⟩:=Na w3 (.cells (aR m) 188);have HBE:=hid (bL HB3.out n5)
 have HK:=hid (show (_/\_) from ⟨p5,rK HP3.out n5⟩);clear n5 p5 HP5;have hsa:(97 :: 114 :: 99 :: 32 :: dI (i:Int):Sr).length<=30:=by simp only [List.length_cons];omega
 obtain ⟨sa,hsae⟩:∃ sa,sa=(97 :: 114 :: 99 :: 32 :: dI (i:Int):Sr):=⟨_,rfl⟩
 rw [<- hsae] at hsa;rw [<- hsae];clear hsae;go_upto_region 4 with fail;clear q0 q1 q2 q3 q4 q5 r1 HB3 HP3;rw [show w3.alloc (.cells #[.int .i64 m.a.frm,.int .i64 m.a.tgt,.int .i64 m.a.prof,.int .i64 m.a.miles,.slice m.A m.a.trav.length m.ca,.slice m.C m.a.slow.length m.cc] 188)=w3.alloc (.cells (aR m) 188) from rfl];generalize w3.alloc (.cells (aR m) 188)=wd0 at *
 generalize w3.heap.size=g5 at *;have HO:=hid (show FO wd0 w.heap.size none 0 [] from OR.nil _ _ _ _);have HFS:=hid (fZ.nil (K:=30));have HPR:=hid (show ([]:List (Int × Sr))=[]->True from fun _=>trivial);have hlen:([]:List (Int × Sr)).length<=0:=Nat.le_refl _;go_upto_region 4 with fail;go_cut [46] (fun s wx=>(∃ b:Bool,s=.bool b/\(b=false->True))/\Below wd0.heap.size wd0 wx)
 case first =>
  as_aux_lemma =>
  have c0:=cN HK.out.1 0 (.int .i64 m.a.frm) rfl;have c1:=cN HK.out.1 1 (.int .i64 m.a.tgt) rfl;have cn:=cN HK.out.2 0 (.slice pA np pc) rfl;by_cases hc0:m.a.frm<0
  ·have hd0:decide (m.a.frm<0)=true:=decide_eq_true hc0
   go_wp2_with fail;go_meet;exact ⟨⟨true,rfl,fun h=>absurd h (by decide)⟩,Below.refl _ _⟩
  ·have hd0:decide (m.a.frm<0)=false:=decide_eq_false hc0
   by_cases hc1:m.a.frm >= (np:Int)
   ·have hd1:decide (m.a.frm >= (np:Int))=true:=decide_eq_true hc1
    go_wp2_with fail;go_meet;exact ⟨⟨true,rfl,fun h=>absurd h (by decide)⟩,Below.refl _ _⟩
   ·have hd1:decide (m.a.frm >= (np:Int))=false:=decide_eq_false hc1
    by_cases hc2:m.a.tgt<0
    ·have hd2:decide (m.a.tgt<0)=true:=decide_eq_true hc2
     go_wp2_with fail;go_meet;exact ⟨⟨true,rfl,fun h=>absurd h (by decide)⟩,Below.refl _ _⟩
    ·have hd2:decide (m.a.tgt<0)=false:=decide_eq_false hc2
     by_cases hc3:m.a.tgt >= (np:Int)
     ·have hd3:decide (m.a.tgt >= (np:Int))=true:=decide_eq_true hc3
      go_wp2_with fail;go_meet;exact ⟨⟨true,rfl,fun h=>absurd h (by decide)⟩,Below.refl _ _⟩
     ·have hd3:decide (m.a.tgt >= (np:Int))=false:=decide_eq_false hc3
      go_wp2_with fail;go_meet;exact ⟨⟨false,rfl,fun _=>trivial⟩,Below.refl _ _⟩
 case rest =>
  rename World=>we1;obtain ⟨⟨b,rfl,hbf⟩,hb⟩:=hcut;have HBF:=hid hbf;have HO2:=hid (HO.out.below hb);have HBE2:=hid (bL HBE.out hb);have HK2:=hid (show (fun wx=>wx.heap[g5]? = some (.cells (aR m) 188)/\wx.heap[g4]? = some (.cells #[.slice pA np pc,.slice (some ⟨g1,o1,none⟩) l.length c] 25)) we1 from ⟨rK HK.out.1 hb,rK HK.out.2 hb⟩);clear hbf hb HO HBE HK
  have HO:=HO2;have HBE:=HBE2;have HK:=HK2;clear HO2 HBE2 HK2;go_upto_if 46 with (fail)
  go_cut [5] (FlR w (1) 30 (fun wx=>wx.heap[g5]? = some (.cells (aR m) 188)/\wx.heap[g4]? = some (.cells #[.slice pA np pc,.slice (some ⟨g1,o1,none⟩) l.length c] 25)) (True))
  case first =>
   as_aux_lemma =>
   cases b with
   |true =>
    go_wp2_with (at_builtin;refine wt ef rfl _ _ rfl rfl rfl rfl w.heap.size none 0 ([]:List (Int × Sr)) we1 11 sa rfl HO.out rfl (by omega) HBE.out.size ?_;intro A3 c3 w6 hown6 hb6 hkp6)
    go_meet;exact ⟨A3,c3,_,by first | rfl | rw [sL],hown6,by rw [sL];omega,HFS.out.snoc hsa (by decide),sN,HBE.out.trans hb6,hkp6.row HK.out.1 (HO.out.far HK.out.1 fa),hkp6.row HK.out.2 (HO.out.far HK.out.2 fN)⟩
   |false =>
    go_wp2_with fail;go_meet;exact ⟨none,0,([]:List (Int × Sr)),rfl,HO.out,by omega,HFS.out,fun h=>trivial,HBE.out,HK.out⟩
  case rest =>
   rename World=>wd1;clear HO HFS HPR HBE HK hlen;obtain ⟨A1,c1,fs,rfl,hown,hlen,hfs,hpr,hbe,hk⟩:=hcut;have HO:=hid hown;have HFS:=hid hfs;have HPR:=hid hpr;have HBE:=hid hbe;have HK:=hid hk;clear hown hfs hpr hbe hk;clear HBF;go_upto_region 6 with fail;go_cut [76] (fun s wx=>(∃ b:Bool,s=.bool b/\(b=false->QA1 m))/\Below wd1.heap.size wd1 wx)
   case first =>
    as_aux_lemma =>
    have c0:=cN HK.out.1 0 (.int .i64 m.a.frm) rfl;have c1:=cN HK.out.1 1 (.int .i64 m.a.tgt) rfl;have c2:=cN HK.out.1 2 (.int .i64 m.a.prof) rfl;have c3:=cN HK.out.1 3 (.int .i64 m.a.miles) rfl;by_cases hc0:m.a.prof<0
    ·have hd0:decide (m.a.prof<0)=true:=decide_eq_true hc0
     go_wp2_with fail;go_meet;exact ⟨⟨true,rfl,fun h=>absurd h (by decide)⟩,Below.refl _ _⟩
    ·have hd0:decide (m.a.prof<0)=false:=decide_eq_false hc0
     by_cases hc1:m.a.prof > 7
     ·have hd1:decide (m.a.prof > 7)=true:=decide_eq_true hc1
      go_wp2_with fail;go_meet;exact ⟨⟨true,rfl,fun h=>absurd h (by decide)⟩,Below.refl _ _⟩
     ·have hd1:decide (m.a.prof > 7)=false:=decide_eq_false hc1
      by_cases hc2:m.a.miles<0
      ·have hd2:decide (m.a.miles<0)=true:=decide_eq_true hc2
       go_wp2_with fail;go_meet;exact ⟨⟨true,rfl,fun h=>absurd h (by decide)⟩,Below.refl _ _⟩
      ·have hd2:decide (m.a.miles<0)=false:=decide_eq_false hc2
       by_cases hc3:m.a.miles > 10000
       ·have hd3:decide (m.a.miles > 10000)=true:=decide_eq_true hc3
        go_wp2_with fail;go_meet;exact ⟨⟨true,rfl,fun h=>absurd h (by decide)⟩,Below.refl _ _⟩
       ·have hd3:decide (m.a.miles > 10000)=false:=decide_eq_false hc3
        have HAM:=hid (show QA1 m from ⟨by omega,by omega⟩);by_cases hc4:m.a.frm=m.a.tgt
        ·have hd4:=iB hc4
         go_wp2_with fail;go_meet;exact ⟨⟨true,rfl,fun h=>absurd h (by decide)⟩,Below.refl _ _⟩
        ·have hd4:=ib hc4
         go_wp2_with fail;go_meet;exact ⟨⟨false,rfl,fun _=>HAM.out⟩,Below.refl _ _⟩
   case rest =>
    rename World=>we2;obtain ⟨⟨b,rfl,hbf⟩,hb⟩:=hcut;have HBF:=hid hbf;have HO2:=hid (HO.out.below hb);have HBE2:=hid (bL HBE.out hb);have HK2:=hid (show (fun wx=>wx.heap[g5]? = some (.cells (aR m) 188)/\wx.heap[g4]? = some (.cells #[.slice pA np pc,.slice (some ⟨g1,o1,none⟩) l.length c] 25)) we2 from ⟨rK HK.out.1 hb,rK HK.out.2 hb⟩);clear hbf hb HO HBE HK
    have HO:=HO2;have HBE:=HBE2;have HK:=HK2;clear HO2 HBE2 HK2;go_upto_if 76 with (fail)
    go_cut [5] (FlR w (2) 30 (fun wx=>wx.heap[g5]? = some (.cells (aR m) 188)/\wx.heap[g4]? = some (.cells #[.slice pA np pc,.slice (some ⟨g1,o1,none⟩) l.length c] 25)) (QA1 m))
    case first =>
     as_aux_lemma =>
     cases b with
     |true =>
      go_wp2_with (at_builtin;refine wt ef rfl _ _ rfl rfl rfl rfl w.heap.size A1 c1 fs we2 2 sa rfl HO.out rfl (by omega) HBE.out.size ?_;intro A3 c3 w6 hown6 hb6 hkp6)
      go_meet;exact ⟨A3,c3,_,by first | rfl | rw [sL],hown6,by rw [sL];omega,HFS.out.snoc hsa (by decide),sN,HBE.out.trans hb6,hkp6.row HK.out.1 (HO.out.far HK.out.1 fa),hkp6.row HK.out.2 (HO.out.far HK.out.2 fN)⟩
     |false =>
      go_wp2_with fail;go_meet;exact ⟨A1,c1,fs,rfl,HO.out,by omega,HFS.out,fun h=>(by first | exact HBF.out rfl | exact HBF.out trivial | exact HBF.out),HBE.out,HK.out⟩
    case rest =>
     rename World=>wd2;clear HO HFS HPR HBE HK hlen;obtain ⟨A1,c1,fs,rfl,hown,hlen,hfs,hpr,hbe,hk⟩:=hcut;have HO:=hid hown;have HFS:=hid hfs;have HPR:=hid hpr;have HBE:=hid hbe;have HK:=hid hk;clear hown hfs hpr hbe hk;clear HBF;go_upto_block 0 with fail;go_cut [8] (fun s wx=>(∃ b:Bool,s=.bool b)/\Below wd2.heap.size wd2 wx)
     case first =>
      as_aux_lemma =>
      go_wp2_with fail;go_loopw [8,9,10] (fun b2 j2 _ wr=>∃ (j:Nat) (b:Bool),j<=i/\j2=.int .i64 j/\b2=.bool b/\Below wd2.heap.size wd2 wr) (fun _ j2 _ _=>i - (intOf j2).toNat)
      case atStart=>exact ⟨0,false,Nat.zero_le _,rfl,rfl,Below.refl _ _⟩
      case round =>
       obtain ⟨j,b,hj,rfl,rfl,hbr⟩:=hrel;have HBR:=hid hbr;clear hbr;by_cases hjl:j<i
       ·have hjl1:(j:Int)<(i:Int):=by omega
        have hjl2:j<l.length:=by omega
        have hjl3:(j:Int)<(l.length:Int):=by omega
        have hbw:=bL HBE.out HBR.out;have r1:=cN (rK HK.out.2 HBR.out) 1 (.slice (some ⟨g1,o1,none⟩) l.length c) rfl;have q0:=HX.out wr hbw j hjl2 0 _ rfl;have q1:=HX.out wr hbw j hjl2 1 _ rfl;have q2:=HX.out wr hbw j hjl2 2 _ rfl;have q3:=HX.out wr hbw j hjl2 3 _ rfl;have q4:=HX.out wr hbw j hjl2 4 _ rfl;have q5:=HX.out wr hbw j hjl2 5 _ rfl;rw [Nat.add_zero] at q0
        generalize l[j]=v at *;obtain ⟨n5,p5⟩:=Na wr (.cells (aR v) 188);have HP5:=hid p5;have HN5:=hid (bL HBR.out n5);have HR5:=hid (rK (rK HK.out.1 HBR.out) n5);clear n5 p5 hbw;go_upto_region 13 with fail;clear q0 q1 q2 q3 q4 q5 r1
        rw [show wr.alloc (.cells #[.int .i64 v.a.frm,.int .i64 v.a.tgt,.int .i64 v.a.prof,.int .i64 v.a.miles,.slice v.A v.a.trav.length v.ca,.slice v.C v.a.slow.length v.cc] 188)=wr.alloc (.cells (aR v) 188) from rfl];generalize wr.alloc (.cells (aR v) 188)=w5 at *;have f0:=cN HP5.out 0 (.int .i64 v.a.frm) rfl;have f1:=cN HP5.out 1 (.int .i64 v.a.tgt) rfl
        have f2:=cN HP5.out 2 (.int .i64 v.a.prof) rfl;have e0:=cN HR5.out 0 (.int .i64 m.a.frm) rfl;have e1:=cN HR5.out 1 (.int .i64 m.a.tgt) rfl;have e2:=cN HR5.out 2 (.int .i64 m.a.prof) rfl
        cases b with
        |true =>
         go_wp2_with fail;go_roundw
         case rel=>exact ⟨j+1,true,by omega,by go_num,rfl,HN5.out⟩
         case measure=>simp [intOf];omega
        |false =>
         by_cases h0:m.a.frm=v.a.frm
         ·have hb0:=iB h0
          by_cases h1:m.a.tgt=v.a.tgt
          ·have hb1:=iB h1
           by_cases h2:m.a.prof=v.a.prof
           ·have hb2:=iB h2
            clear h0 h1 h2;go_wp2_with fail;go_roundw
            case rel=>exact ⟨j+1,true,by omega,by go_num,rfl,HN5.out⟩
            case measure=>simp [intOf];omega
           ·have hb2:=ib h2
            clear h0 h1 h2;go_wp2_with fail;go_roundw
            case rel=>exact ⟨j+1,false,by omega,by go_num,rfl,HN5.out⟩
            case measure=>simp [intOf];omega
          ·have hb1:=ib h1
           clear h0 h1;go_wp2_with fail;go_roundw
           case rel=>exact ⟨j+1,false,by omega,by go_num,rfl,HN5.out⟩
           case measure=>simp [intOf];omega
         ·have hb0:=ib h0
          clear h0;go_wp2_with fail;go_roundw
          case rel=>exact ⟨j+1,false,by omega,by go_num,rfl,HN5.out⟩
          case measure=>simp [intOf];omega
       ·have hjl1:¬ (j:Int)<(i:Int):=by omega
        go_wp2_with fail;go_meet;exact ⟨⟨b,rfl⟩,HBR.out⟩
     case rest =>
      rename World=>wdT;obtain ⟨⟨tw,rfl⟩,hb⟩:=hcut;have HO2:=hid (HO.out.below hb);have HBE2:=hid (bL HBE.out hb);have HK2:=hid (show (fun wx=>wx.heap[g5]? = some (.cells (aR m) 188)/\wx.heap[g4]? = some (.cells #[.slice pA np pc,.slice (some ⟨g1,o1,none⟩) l.length c] 25)) wdT from ⟨rK HK.out.1 hb,rK HK.out.2 hb⟩);clear hb HO HBE HK;have HO:=HO2;have HBE:=HBE2
      have HK:=HK2;clear HO2 HBE2 HK2;go_upto_region 14 with fail;go_cut [114] (fun s wx=>(∃ b:Bool,s=.bool b/\(b=false->True))/\Below wdT.heap.size wdT wx)
      case first =>
       as_aux_lemma =>
       go_wp2_with fail;go_meet;exact ⟨⟨tw,rfl,fun _=>trivial⟩,Below.refl _ _⟩
      case rest =>
       rename World=>we3;obtain ⟨⟨b,rfl,hbf⟩,hb⟩:=hcut;have HBF:=hid hbf;have HO2:=hid (HO.out.below hb);have HBE2:=hid (bL HBE.out hb);have HK2:=hid (show (fun wx=>wx.heap[g5]? = some (.cells (aR m) 188)/\wx.heap[g4]? = some (.cells #[.slice pA np pc,.slice (some ⟨g1,o1,none⟩) l.length c] 25)) we3 from ⟨rK HK.out.1 hb,rK HK.out.2 hb⟩);clear hbf hb HO HBE HK
       have HO:=HO2;have HBE:=HBE2;have HK:=HK2;clear HO2 HBE2 HK2;go_upto_if 114 with (fail)
       go_cut [5] (FlR w (3) 30 (fun wx=>wx.heap[g5]? = some (.cells (aR m) 188)/\wx.heap[g4]? = some (.cells #[.slice pA np pc,.slice (some ⟨g1,o1,none⟩) l.length c] 25)) (QA1 m))
       case first =>
        as_aux_lemma =>
        cases b with
        |true =>
         go_wp2_with (at_builtin;refine wt ef rfl _ _ rfl rfl rfl rfl w.heap.size A1 c1 fs we3 6 sa rfl HO.out rfl (by omega) HBE.out.size ?_;intro A3 c3 w6 hown6 hb6 hkp6)
         go_meet;exact ⟨A3,c3,_,by first | rfl | rw [sL],hown6,by rw [sL];omega,HFS.out.snoc hsa (by decide),sN,HBE.out.trans hb6,hkp6.row HK.out.1 (HO.out.far HK.out.1 fa),hkp6.row HK.out.2 (HO.out.far HK.out.2 fN)⟩
        |false =>
         go_wp2_with fail;go_meet;exact ⟨A1,c1,fs,rfl,HO.out,by omega,HFS.out,fun h=>HPR.out h,HBE.out,HK.out⟩
       case rest =>
        rename World=>wd3;clear HO HFS HPR HBE HK hlen;obtain ⟨A1,c1,fs,rfl,hown,hlen,hfs,hpr,hbe,hk⟩:=hcut;have HO:=hid hown;have HFS:=hid hfs;have HPR:=hid hpr;have HBE:=hid hbe;have HK:=hid hk;clear hown hfs hpr hbe hk;clear HBF;have HT:=hid (HMA.out.below HBE.out);have c4:=cN HK.out.1 4 (.slice m.A m.a.trav.length m.ca) rfl;go_wp2_with fail
        refine (rtcheck_any m.a.trav m.A m.ca _ HT.out.trav HT.out.tl HT.out.travF ht).mono ?_;rintro e w7 ⟨E,ce,gs,rfl,hoE,hfE,hle,hokE,hb7⟩;have HAP:=hid (Aprt.start hoE HO.out);have HFE:=hid hfE;have HOK:=hid hokE;have HO2:=hid (HO.out.below hb7);have HBE2:=hid (bL HBE.out hb7)
        have HK2:=hid (show (fun wx=>wx.heap[g5]? = some (.cells (aR m) 188)/\wx.heap[g4]? = some (.cells #[.slice pA np pc,.slice (some ⟨g1,o1,none⟩) l.length c] 25)) w7 from ⟨rK HK.out.1 hb7,rK HK.out.2 hb7⟩);clear hoE hfE hokE hb7 HO HBE HK HT c4;have HO:=HO2;have HBE:=HBE2;have HK:=HK2;clear HO2 HBE2 HK2;go_upto_block 2 with fail
        go_cut [5] (FlR w (3+gs.length) 30 (fun wx=>wx.heap[g5]? = some (.cells (aR m) 188)/\wx.heap[g4]? = some (.cells #[.slice pA np pc,.slice (some ⟨g1,o1,none⟩) l.length c] 25)) (QA2 m))
        case first =>
         as_aux_lemma =>
         go_wp2_with fail
         go_loopw [5,12] (fun o2 j2 wr=>∃ (j:Nat) (A2:Option Addr) (c2:Nat) (fs2:List (Int × Sr)),j<=gs.length/\j2=.int .i64 j/\o2=.slice A2 fs2.length c2/\FO wr w.heap.size A2 c2 fs2/\fZ 30 fs2/\fs2.length<=fs.length+j/\(fs2=[]->fs=[]/\j=0)/\Below w.heap.size w wr/\(fun wx=>wx.heap[g5]? = some (.cells (aR m) 188)/\wx.heap[g4]? = some (.cells #[.slice pA np pc,.slice (some ⟨g1,o1,none⟩) l.length c] 25)) wr/\Aprt wr E A2 (gs.flatMap fC)) (fun _ j2 _=>gs.length - (intOf j2).toNat)
         case atStart=>exact ⟨0,A1,c1,fs,Nat.zero_le _,rfl,rfl,HO.out,HFS.out,by omega,fun h=>⟨h,rfl⟩,HBE.out,HK.out,HAP.out⟩
         case round =>
          clear HO HBE HK HAP;obtain ⟨j,A2,c2,fs2,hj,rfl,rfl,hown2,hfs2,hlen2,hok2,hb2,hk2,hap2⟩:=hrel;have HO:=hid hown2;have HS2:=hid hfs2;have HOK2:=hid hok2;have HBE:=hid hb2;have HK:=hid hk2;have HAP:=hid hap2;clear hown2 hfs2 hok2 hb2 hk2 hap2;by_cases hjl:j<gs.length
          ·have hjl1:(j:Int)<(gs.length:Int):=by omega
           obtain ⟨ge,oe,hE,hge,hx⟩:=eP FC (by decide) HAP.out.1 (show 0<gs.length by omega);subst hE;have x0:=hx j hjl 0 _ rfl;rw [Nat.add_zero] at x0;have hfit:=(HFE.out _ (List.getElem_mem hjl)).2;have HFT:=hid hfit;clear hx hfit;generalize gs[j]=gj at *
           go_wp2_with (at_builtin;refine wp_fltN ef rfl _ _ rfl rfl rfl rfl w.heap.size A2 c2 fs2 wr gj.1 sa rfl HO.out rfl (by omega) HBE.out.size ?_;intro A3 c3 w6 hown6 hb6 hkp6 hfr6)
           have hap6:=HAP.out.app HO.out hkp6 hfr6;go_roundw
           case rel=>exact ⟨j+1,A3,c3,_,by omega,by go_num,by rw [sL],hown6,HS2.out.snoc hsa HFT.out,by rw [sL];omega,sN,HBE.out.trans hb6,⟨hkp6.row HK.out.1 (HO.out.far HK.out.1 fa),hkp6.row HK.out.2 (HO.out.far HK.out.2 fN)⟩,hap6⟩
           case measure=>simp [intOf];omega
          ·have hjl1:¬ (j:Int)<(gs.length:Int):=by omega
           go_wp2_with fail;go_meet;refine ⟨A2,c2,fs2,rfl,HO.out,by omega,HS2.out,fun h=>?_,HBE.out,HK.out⟩;obtain ⟨h1,h2⟩:=HOK2.out h;exact ⟨HPR.out h1,HOK.out (List.length_eq_zero_iff.1 (by omega))⟩
        case rest =>
         rename World=>wdU;clear HO HFS HPR HBE HK hlen;obtain ⟨A1,c1,fs,rfl,hown,hlen,hfs,hpr,hbe,hk⟩:=hcut;have HO:=hid hown;have HFS:=hid hfs;have HPR:=hid hpr;have HBE:=hid hbe;have HK:=hid hk;clear hown hfs hpr hbe hk;clear HAP HFE HOK;go_upto_region 21 with fail;go_cut [142] (fun s wx=>(∃ b:Bool,s=.bool b/\(b=false->m.a.slow.length<=16))/\Below wdU.heap.size wdU wx)
         case first =>
          as_aux_lemma =>
          have c5:=cN HK.out.1 5 (.slice m.C m.a.slow.length m.cc) rfl;by_cases hc0:16<(m.a.slow.length:Int)
          ·go_wp2_with fail
           go_meet;exact ⟨⟨true,rfl,fun h=>absurd h (by decide)⟩,Below.refl _ _⟩
          ·have HC0:=hid hc0
           go_wp2_with fail;go_meet;exact ⟨⟨false,rfl,fun _=>by have h:=HC0.out;omega⟩,Below.refl _ _⟩
         case rest =>
          rename World=>we4;obtain ⟨⟨b,rfl,hbf⟩,hb⟩:=hcut;have HBF:=hid hbf;have HO2:=hid (HO.out.below hb);have HBE2:=hid (bL HBE.out hb);have HK2:=hid (show (fun wx=>wx.heap[g5]? = some (.cells (aR m) 188)/\wx.heap[g4]? = some (.cells #[.slice pA np pc,.slice (some ⟨g1,o1,none⟩) l.length c] 25)) we4 from ⟨rK HK.out.1 hb,rK HK.out.2 hb⟩);clear hbf hb HO HBE HK
          have HO:=HO2;have HBE:=HBE2;have HK:=HK2;clear HO2 HBE2 HK2;go_upto_if 142 with (fail)
          go_cut [5] (FlR w (4+gs.length) 30 (fun wx=>wx.heap[g5]? = some (.cells (aR m) 188)/\wx.heap[g4]? = some (.cells #[.slice pA np pc,.slice (some ⟨g1,o1,none⟩) l.length c] 25)) (QA3 m))
          case first =>
           as_aux_lemma =>
           cases b with
           |true =>
            go_wp2_with (at_builtin;refine wt ef rfl _ _ rfl rfl rfl rfl w.heap.size A1 c1 fs we4 4 sa rfl HO.out rfl (by omega) HBE.out.size ?_;intro A3 c3 w6 hown6 hb6 hkp6)
            go_meet;exact ⟨A3,c3,_,by first | rfl | rw [sL],hown6,by rw [sL];omega,HFS.out.snoc hsa (by decide),sN,HBE.out.trans hb6,hkp6.row HK.out.1 (HO.out.far HK.out.1 fa),hkp6.row HK.out.2 (HO.out.far HK.out.2 fN)⟩
           |false =>
            go_wp2_with fail;go_meet;exact ⟨A1,c1,fs,rfl,HO.out,by omega,HFS.out,fun h=>⟨HPR.out h,(by first | exact HBF.out rfl | exact HBF.out trivial | exact HBF.out)⟩,HBE.out,HK.out⟩
          case rest =>
           rename World=>wd4;clear HO HFS HPR HBE HK hlen;obtain ⟨A1,c1,fs,rfl,hown,hlen,hfs,hpr,hbe,hk⟩:=hcut;have HO:=hid hown;have HFS:=hid hfs;have HPR:=hid hpr;have HBE:=hid hbe;have HK:=hid hk;clear hown hfs hpr hbe hk;clear HBF;go_upto_block 4 with fail
           go_cut [5] (FlR w (4+gs.length+m.a.slow.length) 30 (fun wx=>wx.heap[g5]? = some (.cells (aR m) 188)/\wx.heap[g4]? = some (.cells #[.slice pA np pc,.slice (some ⟨g1,o1,none⟩) l.length c] 25)) (QA3 m/\∀ p ∈ m.a.slow,iT p.1/\iT p.2))
           case first =>
            as_aux_lemma =>
            go_wp2_with fail
            go_loopw [5,13,14] (fun o2 j2 _ wr=>∃ (j:Nat) (A2:Option Addr) (c2:Nat) (fs2:List (Int × Sr)),j<=m.a.slow.length/\j2=.int .i64 j/\o2=.slice A2 fs2.length c2/\FO wr w.heap.size A2 c2 fs2/\fZ 30 fs2/\fs2.length<=fs.length+j/\(fs2=[]->fs=[]/\∀ q (h:q<m.a.slow.length),q<j->tick2 m.a.slow[q]=true)/\Below w.heap.size w wr/\(fun wx=>wx.heap[g5]? = some (.cells (aR m) 188)/\wx.heap[g4]? = some (.cells #[.slice pA np pc,.slice (some ⟨g1,o1,none⟩) l.length c] 25)) wr) (fun _ j2 _ _=>m.a.slow.length - (intOf j2).toNat)
            case atStart=>exact ⟨0,A1,c1,fs,Nat.zero_le _,rfl,rfl,HO.out,HFS.out,by omega,fun h=>⟨h,fun q _ hq=>by omega⟩,HBE.out,HK.out⟩
            case round =>
             clear HO HBE HK;obtain ⟨j,A2,c2,fs2,hj,rfl,rfl,hown2,hfs2,hlen2,hok2,hb2,hk2⟩:=hrel;have HO:=hid hown2;have HS2:=hid hfs2;have HOK2:=hid hok2;have HBE:=hid hb2;have HK:=hid hk2;have HT:=hid (HMA.out.below hb2);clear hown2 hfs2 hok2 hb2 hk2;have c5:=cN HK.out.1 5 (.slice m.C m.a.slow.length m.cc) rfl;by_cases hjl:j<m.a.slow.length
             ·have hjl1:(j:Int)<(m.a.slow.length:Int):=by omega
              obtain ⟨ge,oe,hE,hge,hx⟩:=eP pC (by decide) HT.out.slow (show 0<m.a.slow.length by omega);have x0:=hx j hjl 0 _ rfl;have x1:=hx j hjl 1 _ rfl;rw [Nat.add_zero] at x0;rw [hE] at c5;have HPREV:=hid (fun (h0:0<j)=>hx (j - 1) (by omega) 0 _ rfl);have HPK:=hid (show ∃ p,m.a.slow[j]=p from ⟨_,rfl⟩);obtain ⟨p,hpp⟩:=HPK.out;rw [hpp] at x0 x1;have HPP:=hid hpp
              have hmc:=HT.out.sl;unfold maxLen at hmc;clear hx hpp HPK;obtain ⟨n5,p5⟩:=Na wr (.cells #[.int .i64 p.1,.int .i64 p.2] 74);have HN5:=hid n5;have HP5:=hid p5;have HE:=hid hE;clear n5 p5 hE;go_upto_region 27 with fail;clear x0 x1 c5;generalize wr.alloc (.cells #[.int .i64 p.1,.int .i64 p.2] 74)=w5 at *
              go_cut [185] (fun s wx=>(∃ b:Bool,s=.bool b/\(b=false->tick2 p=true))/\Below w5.heap.size w5 wx)
              case first =>
               as_aux_lemma =>
               obtain ⟨f0,f1⟩:=C2 HP5.out
               cases ht0:IR p.1 0 4096 with
               |false =>
                go_quiet ((go_at_call 142;exact Calls.quiet_of_same (Ra _ _)))
                go_wp2_with fail;go_meet;exact ⟨⟨true,rfl,fun h=>absurd h (by decide)⟩,below_drewN (Below.refl _ _) nq⟩
               |true =>
                cases ht1:IR p.2 0 4096 with
                |false =>
                 go_quiet ((go_at_call 142;exact Calls.quiet_of_same (Ra _ _)))
                 go_wp2_with fail;go_meet;exact ⟨⟨true,rfl,fun h=>absurd h (by decide)⟩,below_drewN (Below.refl _ _) nq⟩
                |true =>
                 have HTK:=hid (show tick2 p=true by unfold tick2;rw [ht0,ht1];rfl);by_cases h0:0<j
                 ·have h0i:(j:Int) > 0:=by omega
                  have hd0:decide ((j:Int) > 0)=true:=decide_eq_true h0i;have hj1:(j:Int) - 1=((j - 1:Nat):Int):=by omega
                  have y0:=(HN5.out.cell (p:=⟨ge,oe+(j - 1)*2+0,none⟩) hge).trans (HPREV.out h0);rw [Nat.add_zero] at y0;have hj2:j - 1<m.a.slow.length:=by omega
                  have e5:=cN (rK HK.out.1 HN5.out) 5 (.slice m.C m.a.slow.length m.cc) rfl;rw [HE.out] at e5;generalize m.a.slow[j - 1]'hj2=pv at *;by_cases hle5:p.1<=pv.1
                  ·have hd5:decide (p.1<=pv.1)=true:=decide_eq_true hle5
                   go_quiet ((go_at_call 142;exact Calls.quiet_of_same (Ra _ _)))
                   go_wp2_with fail;go_meet;exact ⟨⟨true,rfl,fun h=>absurd h (by decide)⟩,below_drewN (Below.refl _ _) nq⟩
                  ·have hd5:decide (p.1<=pv.1)=false:=decide_eq_false hle5
                   go_quiet ((go_at_call 142;exact Calls.quiet_of_same (Ra _ _)))
                   go_wp2_with fail;go_meet;exact ⟨⟨false,rfl,fun _=>HTK.out⟩,below_drewN (Below.refl _ _) nq⟩
                 ·have hd0:decide ((j:Int) > 0)=false:=decide_eq_false (by omega)
                  go_quiet ((go_at_call 142;exact Calls.quiet_of_same (Ra _ _)))
                  go_wp2_with fail;go_meet;exact ⟨⟨false,rfl,fun _=>HTK.out⟩,below_drewN (Below.refl _ _) nq⟩
              case rest =>
               rename World=>w8;obtain ⟨⟨b,rfl,hbt⟩,hb8⟩:=hcut;have HBT:=hid hbt;have hb9:=HN5.out.trans (hb8.mono HN5.out.size);have HO8:=hid (HO.out.below hb9);have HBE8:=hid (bL HBE.out hb9)
               have HK8:=hid (show (fun wx=>wx.heap[g5]? = some (.cells (aR m) 188)/\wx.heap[g4]? = some (.cells #[.slice pA np pc,.slice (some ⟨g1,o1,none⟩) l.length c] 25)) w8 from ⟨rK HK.out.1 hb9,rK HK.out.2 hb9⟩);clear hbt hb8 hb9 HO HBE HK HT HN5 HP5 HPREV;have HO:=HO8;have HBE:=HBE8;have HK:=HK8;clear HO8 HBE8 HK8
               cases b with
               |true =>
                go_wp2_with (at_builtin;refine wt ef rfl _ _ rfl rfl rfl rfl w.heap.size A2 c2 fs2 w8 2 sa rfl HO.out rfl (by omega) HBE.out.size ?_;intro A3 c3 w6 hown6 hb6 hkp6)
                go_roundw
                case rel=>exact ⟨j+1,A3,c3,_,by omega,by go_num,by rw [sL],hown6,HS2.out.snoc hsa (by decide),by rw [sL];omega,sN,HBE.out.trans hb6,⟨hkp6.row HK.out.1 (HO.out.far HK.out.1 fa),hkp6.row HK.out.2 (HO.out.far HK.out.2 fN)⟩⟩
                case measure=>simp [intOf];omega
               |false =>
                go_wp2_with fail;go_roundw
                case rel =>
                 refine ⟨j+1,A2,c2,fs2,by omega,by go_num,rfl,HO.out,HS2.out,by omega,fun h=>⟨(HOK2.out h).1,fun q hq hqj=>?_⟩,HBE.out,HK.out⟩;rcases Nat.lt_or_eq_of_le (Nat.le_of_lt_succ hqj) with h6 | h6
                 ·exact (HOK2.out h).2 q hq h6
                 ·subst h6;rw [HPP.out];first | exact HBT.out rfl | exact HBT.out trivial | exact HBT.out
                case measure=>simp [intOf];omega
             ·have hjl1:¬ (j:Int)<(m.a.slow.length:Int):=by omega
              go_wp2_with fail;go_meet;refine ⟨A2,c2,fs2,rfl,HO.out,by omega,HS2.out,fun h=>?_,HBE.out,HK.out⟩;obtain ⟨h1,h2⟩:=HOK2.out h;refine ⟨HPR.out h1,fun p hp=>?_⟩;obtain ⟨q,hq,rfl⟩:=List.getElem_of_mem hp;exact tick2_iff.1 (h2 q hq (by omega))
           case rest =>
            rename World=>wdV;clear HO HFS HPR HBE HK hlen;obtain ⟨A1,c1,fs,rfl,hown,hlen,hfs,hpr,hbe,hk⟩:=hcut;have HO:=hid hown;have HFS:=hid hfs;have HPR:=hid hpr;have HBE:=hid hbe;have HK:=hid hk;clear hown hfs hpr hbe hk;go_wp2_with fail;go_ret;exact ⟨A1,c1,fs,rfl,HO.out,HFS.out,by omega,fun h=>by rw [HM.out];exact arcOK_of (HPR.out h).1 (HPR.out h).2,HBE.out⟩
end Go.Proofs.YtjcekdiocliddaaGreatDoor

/- Lists of codes; lorryref10.rules. -/
import Derived.Test.YtjcekdiocliddaaGreatDoorG69
namespace Go.Proofs.YtjcekdiocliddaaGreatDoor
open Lib (hid)
open Go.RowKit Num Txt Pf Tk
set_option maxHeartbeats 32000000
set_option maxRecDepth 100000
set_option linter.unusedVariables false
attribute [local go_sem] BS Bg Bt Bm Be Ba
theorem cN {w:World} {g:Nat} {l:Array Value} {e:TypeId} {z:Nat × Nat} (h:w.heap[g]? = some (.cells l e z)) (j:Nat) (v:Value) (hj:l[j]? = some v):w.cell? ⟨g,j,none⟩=some v:=by simp [World.cell?,h,hj]
abbrev ErO (w:World) (Bs:Nat) (A:Option Addr) (c:Nat) (es:List Int):Prop:=OR w Bs 42 1 A es.length c (ints es)
section
variable {P:Program} {ops:Array Oper} {rest:List Oper} {o:Oper} {a:Act} {Q:Exit->Act->World->Prop}
theorem We {t e:TypeId} {z:Value} {sz bytes:Nat} (he:ER P t e z sz bytes) (hgd:o.guard=none) (s x:Operand) (ho:o.op=.call { callee:=.builtin .append,args:=#[s,x],argTypes:=#[t,t] }) (het:e=42) (hsz:sz=1) (hby:bytes=8)
  (Bs:Nat) (A:Option Addr) (c:Nat) (es:List Int) (w:World) (k:Int) (hs:a.eval s=.slice A es.length c) (hown:ErO w Bs A c es)
  (hx:a.eval x=.slice (some ⟨w.heap.size,0,none⟩) 1 1) (hl:es.length<=1099511627776) (hbase:Bs<=w.heap.size)
  (h:∀ A' c' w',ErO w' Bs A' c' (es ++ [k])->Below Bs w w'->KA A w w'->wpList P ops Q rest (a.put o.dst (.slice A' (es ++ [k]).length c')) w') :
  wpList P ops Q (o :: rest) a (w.alloc (.cells #[.int .i64 k] e)):=by
 subst het hsz hby;refine wk he hgd s x ho Bs A es.length c (ints es) w #[.int .i64 k] hs hown hx rfl (by intro u hu;simp at hu;subst hu;rfl) (by unfold maxLen;omega) (by omega) hbase ?_;intro A' c' w' h1 h2 h3;have hlen:=sL es k;have e2:ints (es ++ [k])=ints es ++ [.int .i64 k]:=by unfold ints;rw [List.map_append];rfl
 have h4:=h A' c' w' (by show OR _ _ _ _ _ _ _ _;rw [hlen,e2];exact h1) h2 h3;rw [hlen] at h4;exact h4
end
def ErR (w0:World) (n:Nat) (K:World->Prop) (pre:Prop) (l:Value) (wx:World):Prop :=
 ∃ (A:Option Addr) (c:Nat) (es:List Int),l=.slice A es.length c/\ErO wx w0.heap.size A c es/\es.length<=n/\(∀ e ∈ es,fits e)/\(es=[]->pre)/\Below w0.heap.size w0 wx/\K wx
def ErE (w:World) (n:Nat) (ok:Prop) (e:Ending) (w':World):Prop :=
 ∃ (A:Option Addr) (c:Nat) (es:List Int),e=.returned (.slice A es.length c)/\ErO w' w.heap.size A c es/\es.length<=n/\(∀ e ∈ es,fits e)/\(es=[]->ok)/\Below w.heap.size w w'
theorem fS {es:List Int} {k:Int} (h:∀ e ∈ es,fits e) (hk:fits k):∀ e ∈ es ++ [k],fits e:=fun e he=>by
 rcases List.mem_append.1 he with h1 | h1
 ·exact h e h1
 ·rw [List.mem_singleton.1 h1];exact hk
def tY (m:Ty):Array Value:=#[.string (B m.t.name),.int .i64 m.t.count,.int .i64 m.t.frm,.int .i64 m.t.tgt,.slice m.A m.t.cap.length m.ca,.int .i64 m.t.skills,.int .i64 m.t.prof,.int .i64 m.t.opn,.int .i64 m.t.cls,.int .i64 m.t.drive,.int .i64 m.t.rest,.int .i64 m.t.fixed,.int .i64 m.t.mile,.int .i64 m.t.tick]
def T1 (m:Ty):Prop:=IR m.t.opn 0 m.t.cls=true/\m.t.cls<=4096
def T2 (m:Ty):Prop:=IR m.t.drive 1 4096=true/\IR m.t.rest 0 4096=true
def T3 (d:Nat) (m:Ty):Prop:=capB m.t.cap (d:Int)=true
def T4 (m:Ty):Prop:=IR m.t.skills 0 1073741823=true
def T5 (m:Ty):Prop:=IR m.t.fixed 0 100000=true/\IR m.t.mile 0 100=true/\IR m.t.tick 0 100=true
theorem typeOK_of {m:Ty} (h1:T1 m) (h2:T2 m):TO m.t:=by
 have a:=iR.1 h1.1;have b:=iR.1 h2.1;have c:=iR.1 h2.2
 exact ⟨a,h1.2,b,c⟩
theorem typeX_of {d:Nat} {m:Ty} (h3:T3 d m) (h4:T4 m) (h5:T5 m):TX d m.t:=by
 unfold T3 capB at h3;simp only [Bool.and_eq_true,beq_iff_eq,List.all_eq_true] at h3;have h:=iR.1 h3.1.1;exact ⟨h3.1.2,fun n hn=>iR.1 (h3.2 n hn),iR.1 h4,iR.1 h5.1,iR.1 h5.2.1,iR.1 h5.2.2,by omega⟩
theorem Et:42≠81:=by decide
theorem eN:42≠25:=by decide
theorem et:42≠136:=by decide
theorem rules10_any (np na:Nat) (pA aA:Option Addr) (pc ac:Nat) (l:List Ty) (A:Option Addr) (c i:Nat) (w:World) (hp:np<=1048576) (hc:Cs w A (l.flatMap Ty.cells)) (hn:l.length<=c/\c<=maxLen) (hi:i<l.length) (hf:∀ t ∈ l,TY w t) :
  Calls Tryz.prog 101 #[.agg #[.slice pA np pc,.slice aA na ac],.slice A l.length c,.int .i64 i] w (ErE w 9 (TO l[i].t/\TX (dN l) l[i].t)):=by
 have HF:=hid hf;have HC:=hid hc;have HN:=hid hn;unfold maxLen at hn;obtain ⟨g1,o1,hA1,hg1,hx⟩:=typ_at hc (by omega);subst hA1;have hi1:(i:Int)<(l.length:Int):=by omega
 obtain ⟨n4,p4⟩:=Na w (.cells #[.slice pA np pc,.slice aA na ac] 25);have q0:=(n4.cell (p:=⟨g1,o1+i*14+0,none⟩) hg1).trans (hx i hi 0 _ rfl);have q1:=(n4.cell (p:=⟨g1,o1+i*14+1,none⟩) hg1).trans (hx i hi 1 _ rfl);have q2:=(n4.cell (p:=⟨g1,o1+i*14+2,none⟩) hg1).trans (hx i hi 2 _ rfl);have q3:=(n4.cell (p:=⟨g1,o1+i*14+3,none⟩) hg1).trans (hx i hi 3 _ rfl)
 have q4:=(n4.cell (p:=⟨g1,o1+i*14+4,none⟩) hg1).trans (hx i hi 4 _ rfl);have q5:=(n4.cell (p:=⟨g1,o1+i*14+5,none⟩) hg1).trans (hx i hi 5 _ rfl);have q6:=(n4.cell (p:=⟨g1,o1+i*14+6,none⟩) hg1).trans (hx i hi 6 _ rfl);have q7:=(n4.cell (p:=⟨g1,o1+i*14+7,none⟩) hg1).trans (hx i hi 7 _ rfl);have q8:=(n4.cell (p:=⟨g1,o1+i*14+8,none⟩) hg1).trans (hx i hi 8 _ rfl)
 have q9:=(n4.cell (p:=⟨g1,o1+i*14+9,none⟩) hg1).trans (hx i hi 9 _ rfl);have q10:=(n4.cell (p:=⟨g1,o1+i*14+10,none⟩) hg1).trans (hx i hi 10 _ rfl);have q11:=(n4.cell (p:=⟨g1,o1+i*14+11,none⟩) hg1).trans (hx i hi 11 _ rfl);have q12:=(n4.cell (p:=⟨g1,o1+i*14+12,none⟩) hg1).trans (hx i hi 12 _ rfl);have q13:=(n4.cell (p:=⟨g1,o1+i*14+13,none⟩) hg1).trans (hx i hi 13 _ rfl);rw [Nat.add_zero] at q0
 have hma:=hf _ (List.getElem_mem hi);obtain ⟨m,hm⟩:∃ m,l[i]=m:=⟨_,rfl⟩
 rw [hm] at hma q0 q1 q2 q3 q4 q5 q6 q7 q8 q9 q10 q11 q12 q13;obtain ⟨n5,p5⟩:=Na (w.alloc (.cells #[.slice pA np pc,.slice aA na ac] 25)) (.cells (tY m) 81);have HMA:=hid hma;have HB5:=hid (bL n4 n5);have HP5:=hid (show (_/\_) from ⟨p5,rK p4 n5⟩);have HM:=hid hm;have HDL:=hid (fun t ht=>(hf t ht).cl);have HNL:=hid (fun t ht=>(hf t ht).f.name)
 clear hc hf n4 p4 n5 p5 hm hg1 hx hma;go_enter Tryz.func101,Tryz.ntmps101;(try simp only [Bm]);go_upto_region 1 with fail;generalize w.alloc (.cells #[.slice pA np pc,.slice aA na ac] 25)=wa at *;go_upto_region 3 with fail;clear q0 q1 q2 q3 q4 q5 q6 q7 q8 q9 q10 q11 q12 q13
 rw [show wa.alloc (.cells #[.string (B m.t.name),.int .i64 m.t.count,.int .i64 m.t.frm,.int .i64 m.t.tgt,.slice m.A m.t.cap.length m.ca,.int .i64 m.t.skills,.int .i64 m.t.prof,.int .i64 m.t.opn,.int .i64 m.t.cls,.int .i64 m.t.drive,.int .i64 m.t.rest,.int .i64 m.t.fixed,.int .i64 m.t.mile,.int .i64 m.t.tick] 81)=wa.alloc (.cells (tY m) 81) from rfl]
 generalize wa.alloc (.cells (tY m) 81)=wd0 at *;generalize wa.heap.size=g5 at *;obtain ⟨g4,hg4⟩:∃ g4,g4=w.heap.size:=⟨_,rfl⟩
 rw [<- hg4] at HP5;rw [<- hg4];clear hg4;have HO:=hid (show ErO wd0 w.heap.size none 0 [] from OR.nil _ _ _ _);have HFI:=hid (show ∀ e ∈ ([]:List Int),fits e from fun _ h=>absurd h (by simp));have HPR:=hid (show ([]:List Int)=[]->True from fun _=>trivial);have HBE:=HB5;have HK:=HP5;have hlen:([]:List Int).length<=0:=Nat.le_refl _;clear HB5 HP5;go_upto_region 3 with fail
 go_cut [16] (fun s wx=>(∃ b:Bool,s=.bool b/\(b=false->True))/\Below wd0.heap.size wd0 wx)
 case first =>
  as_aux_lemma =>
  have c0:=cN HK.out.1 0 (.string (B m.t.name)) rfl;have hln:=HMA.out.f.name;go_wp2_with fail;refine (Ry m.t.name _ hln).mono ?_;rintro e w2 ⟨rfl,rfl⟩;go_wp2_with fail;go_meet;exact ⟨⟨_,rfl,fun _=>trivial⟩,Below.refl _ _⟩
 case rest =>
  rename World=>we1;obtain ⟨⟨b,rfl,hbf⟩,hb⟩:=hcut;have HBF:=hid hbf;have HO2:=hid (HO.out.below hb);have HBE2:=hid (bL HBE.out hb);have HK2:=hid (show (fun wx=>wx.heap[g5]? = some (.cells (tY m) 81)/\wx.heap[g4]? = some (.cells #[.slice pA np pc,.slice aA na ac] 25)) we1 from ⟨rK HK.out.1 hb,rK HK.out.2 hb⟩);clear hbf hb HO HBE HK;go_upto_if 16 with (fail)
  go_cut [8] (ErR w 1 (fun wx=>wx.heap[g5]? = some (.cells (tY m) 81)/\wx.heap[g4]? = some (.cells #[.slice pA np pc,.slice aA na ac] 25)) (True))
  case first =>
   as_aux_lemma =>
   cases b with
   |true =>
    go_wp2_with (at_builtin;refine We ee rfl _ _ rfl rfl rfl rfl w.heap.size none 0 ([]:List Int) we1 5 rfl HO2.out rfl (by omega) HBE2.out.size ?_;intro A3 c3 w6 hown6 hb6 hkp6)
    go_meet;exact ⟨A3,c3,_,by first | rfl | rw [sL],hown6,by rw [sL];omega,fS HFI.out (by decide),sN,HBE2.out.trans hb6,hkp6.row HK2.out.1 (HO2.out.far HK2.out.1 Et),hkp6.row HK2.out.2 (HO2.out.far HK2.out.2 eN)⟩
   |false =>
    go_wp2_with fail;go_meet;exact ⟨none,0,([]:List Int),rfl,HO2.out,by omega,HFI.out,fun h=>trivial,HBE2.out,HK2.out⟩
  case rest =>
   rename World=>wd1;clear HO2 HFI HPR HBE2 HK2 HBF hlen;obtain ⟨A1,c1,es,rfl,hown,hlen,hfi,hpr,hbe,hk⟩:=hcut;have HO:=hid hown;have HFI:=hid hfi;have HPR:=hid hpr;have HBE:=hid hbe;have HK:=hid hk;clear hown hfi hpr hbe hk;go_upto_region 5 with fail;go_cut [24] (fun s wx=>(∃ b:Bool,s=.bool b/\(b=false->True))/\Below wd1.heap.size wd1 wx)
   case first =>
    as_aux_lemma =>
    have c0:=cN HK.out.1 0 (.string (B m.t.name)) rfl;have hln:=HMA.out.f.name;go_wp2_with fail;refine (known10_any l _ c i m.t.name _ (HC.out.below HBE.out) HN.out (by omega) hln HNL.out).mono ?_;rintro e w2 ⟨⟨b,rfl⟩,rfl⟩;go_wp2_with fail;go_meet;exact ⟨⟨_,rfl,fun _=>trivial⟩,Below.refl _ _⟩
   case rest =>
    rename World=>we2;obtain ⟨⟨b,rfl,hbf⟩,hb⟩:=hcut;have HBF:=hid hbf;have HO2:=hid (HO.out.below hb);have HBE2:=hid (bL HBE.out hb);have HK2:=hid (show (fun wx=>wx.heap[g5]? = some (.cells (tY m) 81)/\wx.heap[g4]? = some (.cells #[.slice pA np pc,.slice aA na ac] 25)) we2 from ⟨rK HK.out.1 hb,rK HK.out.2 hb⟩);clear hbf hb HO HBE HK;go_upto_if 24 with (fail)
    go_cut [8] (ErR w 2 (fun wx=>wx.heap[g5]? = some (.cells (tY m) 81)/\wx.heap[g4]? = some (.cells #[.slice pA np pc,.slice aA na ac] 25)) (True))
    case first =>
     as_aux_lemma =>
     cases b with
     |true =>
      go_wp2_with (at_builtin;refine We ee rfl _ _ rfl rfl rfl rfl w.heap.size A1 c1 es we2 6 rfl HO2.out rfl (by omega) HBE2.out.size ?_;intro A3 c3 w6 hown6 hb6 hkp6)
      go_meet;exact ⟨A3,c3,_,by first | rfl | rw [sL],hown6,by rw [sL];omega,fS HFI.out (by decide),sN,HBE2.out.trans hb6,hkp6.row HK2.out.1 (HO2.out.far HK2.out.1 Et),hkp6.row HK2.out.2 (HO2.out.far HK2.out.2 eN)⟩
     |false =>
      go_wp2_with fail;go_meet;exact ⟨A1,c1,es,rfl,HO2.out,by omega,HFI.out,fun h=>trivial,HBE2.out,HK2.out⟩
    case rest =>
     rename World=>wd2;clear HO2 HFI HPR HBE2 HK2 HBF hlen;obtain ⟨A1,c1,es,rfl,hown,hlen,hfi,hpr,hbe,hk⟩:=hcut;have HO:=hid hown;have HFI:=hid hfi;have HPR:=hid hpr;have HBE:=hid hbe;have HK:=hid hk;clear hown hfi hpr hbe hk;go_upto_region 7 with fail;go_cut [31] (fun s wx=>(∃ b:Bool,s=.bool b/\(b=false->True))/\Below wd2.heap.size wd2 wx)
     case first =>
      as_aux_lemma =>
      have c1:=cN HK.out.1 1 (.int .i64 m.t.count) rfl;go_wp2_with fail;refine (I1 m.t.count 0 10 _).mono ?_;rintro e w2 ⟨rfl,rfl⟩
      cases hb0:IR m.t.count 0 10 with
      |false =>
       clear hb0;go_wp2_with fail;go_meet;exact ⟨⟨true,rfl,fun h=>absurd h (by decide)⟩,Below.refl _ _⟩
      |true =>
       have HI0:=hid hb0;clear hb0;go_wp2_with fail;go_meet;exact ⟨⟨false,rfl,fun _=>trivial⟩,Below.refl _ _⟩
     case rest =>
      rename World=>we3;obtain ⟨⟨b,rfl,hbf⟩,hb⟩:=hcut;have HBF:=hid hbf;have HO2:=hid (HO.out.below hb);have HBE2:=hid (bL HBE.out hb);have HK2:=hid (show (fun wx=>wx.heap[g5]? = some (.cells (tY m) 81)/\wx.heap[g4]? = some (.cells #[.slice pA np pc,.slice aA na ac] 25)) we3 from ⟨rK HK.out.1 hb,rK HK.out.2 hb⟩);clear hbf hb HO HBE HK;go_upto_if 31 with (fail)
      go_cut [8] (ErR w 3 (fun wx=>wx.heap[g5]? = some (.cells (tY m) 81)/\wx.heap[g4]? = some (.cells #[.slice pA np pc,.slice aA na ac] 25)) (True))
      case first =>
       as_aux_lemma =>
       cases b with
       |true =>
        go_wp2_with (at_builtin;refine We ee rfl _ _ rfl rfl rfl rfl w.heap.size A1 c1 es we3 22 rfl HO2.out rfl (by omega) HBE2.out.size ?_;intro A3 c3 w6 hown6 hb6 hkp6)
        go_meet;exact ⟨A3,c3,_,by first | rfl | rw [sL],hown6,by rw [sL];omega,fS HFI.out (by decide),sN,HBE2.out.trans hb6,hkp6.row HK2.out.1 (HO2.out.far HK2.out.1 Et),hkp6.row HK2.out.2 (HO2.out.far HK2.out.2 eN)⟩
       |false =>
        go_wp2_with fail;go_meet;exact ⟨A1,c1,es,rfl,HO2.out,by omega,HFI.out,fun h=>trivial,HBE2.out,HK2.out⟩
      case rest =>
       rename World=>wd3;clear HO2 HFI HPR HBE2 HK2 HBF hlen;obtain ⟨A1,c1,es,rfl,hown,hlen,hfi,hpr,hbe,hk⟩:=hcut;have HO:=hid hown;have HFI:=hid hfi;have HPR:=hid hpr;have HBE:=hid hbe;have HK:=hid hk;clear hown hfi hpr hbe hk;go_upto_region 9 with fail;go_cut [52] (fun s wx=>(∃ b:Bool,s=.bool b/\(b=false->True))/\Below wd3.heap.size wd3 wx)
       case first =>
        as_aux_lemma =>
        have c2:=cN HK.out.1 2 (.int .i64 m.t.frm) rfl;have c3:=cN HK.out.1 3 (.int .i64 m.t.tgt) rfl;have cn:=cN HK.out.2 0 (.slice pA np pc) rfl;go_wp2_with fail;refine (I1 m.t.frm 0 ((np:Int) - 1) _).mono ?_;rintro e w2 ⟨rfl,rfl⟩
        cases hb0:IR m.t.frm 0 ((np:Int) - 1) with
        |false =>
         clear hb0;go_wp2_with fail;go_meet;exact ⟨⟨true,rfl,fun h=>absurd h (by decide)⟩,Below.refl _ _⟩
        |true =>
         have HI0:=hid hb0;clear hb0;go_wp2_with fail;refine (I1 m.t.tgt 0 ((np:Int) - 1) _).mono ?_;rintro e w2 ⟨rfl,rfl⟩
         cases hb1:IR m.t.tgt 0 ((np:Int) - 1) with
         |false =>
          clear hb1;go_wp2_with fail;go_meet;exact ⟨⟨true,rfl,fun h=>absurd h (by decide)⟩,Below.refl _ _⟩
         |true =>
          have HI1:=hid hb1;clear hb1;go_wp2_with fail;go_meet;exact ⟨⟨false,rfl,fun _=>trivial⟩,Below.refl _ _⟩
       case rest =>
        rename World=>we4;obtain ⟨⟨b,rfl,hbf⟩,hb⟩:=hcut;have HBF:=hid hbf;have HO2:=hid (HO.out.below hb);have HBE2:=hid (bL HBE.out hb);have HK2:=hid (show (fun wx=>wx.heap[g5]? = some (.cells (tY m) 81)/\wx.heap[g4]? = some (.cells #[.slice pA np pc,.slice aA na ac] 25)) we4 from ⟨rK HK.out.1 hb,rK HK.out.2 hb⟩);clear hbf hb HO HBE HK
        go_upto_if 52 with (fail)
        go_cut [8] (ErR w 4 (fun wx=>wx.heap[g5]? = some (.cells (tY m) 81)/\wx.heap[g4]? = some (.cells #[.slice pA np pc,.slice aA na ac] 25)) (True))
        case first =>
         as_aux_lemma =>
         cases b with
         |true =>
          go_wp2_with (at_builtin;refine We ee rfl _ _ rfl rfl rfl rfl w.heap.size A1 c1 es we4 11 rfl HO2.out rfl (by omega) HBE2.out.size ?_;intro A3 c3 w6 hown6 hb6 hkp6)
          go_meet;exact ⟨A3,c3,_,by first | rfl | rw [sL],hown6,by rw [sL];omega,fS HFI.out (by decide),sN,HBE2.out.trans hb6,hkp6.row HK2.out.1 (HO2.out.far HK2.out.1 Et),hkp6.row HK2.out.2 (HO2.out.far HK2.out.2 eN)⟩
         |false =>
          go_wp2_with fail;go_meet;exact ⟨A1,c1,es,rfl,HO2.out,by omega,HFI.out,fun h=>trivial,HBE2.out,HK2.out⟩
        case rest =>
         rename World=>wd4;clear HO2 HFI HPR HBE2 HK2 HBF hlen;obtain ⟨A1,c1,es,rfl,hown,hlen,hfi,hpr,hbe,hk⟩:=hcut;have HO:=hid hown;have HFI:=hid hfi;have HPR:=hid hpr;have HBE:=hid hbe;have HK:=hid hk;clear hown hfi hpr hbe hk;go_upto_region 11 with fail;go_cut [61] (fun s wx=>(∃ b:Bool,s=.bool b/\(b=false->T3 (dN l) m))/\Below wd4.heap.size wd4 wx)
         case first =>
          as_aux_lemma =>
          have c4:=cN HK.out.1 4 (.slice m.A m.t.cap.length m.ca) rfl;have HX4:=hid (HMA.out.below HBE.out)
          go_quiet ((first | (go_at_call 49;exact Calls.quiet_of_same (dims10_any l _ c _ ((HC.out.below HBE.out).below (below_drewN (Below.refl _ _) _)) HN.out HDL.out)) | (go_at_call 144;exact Calls.quiet_of_same (cap10_any _ _ _ _ _ (HX4.out.cap.below (below_drewN (Below.refl _ _) _)) HX4.out.cl))))
          go_wp2_with fail;go_meet;exact ⟨⟨_,rfl,fun h=>by simpa [T3] using h⟩,below_drewN (Below.refl _ _) _⟩
         case rest =>
          rename World=>we5;obtain ⟨⟨b,rfl,hbf⟩,hb⟩:=hcut;have HBF:=hid hbf;have HO2:=hid (HO.out.below hb);have HBE2:=hid (bL HBE.out hb);have HK2:=hid (show (fun wx=>wx.heap[g5]? = some (.cells (tY m) 81)/\wx.heap[g4]? = some (.cells #[.slice pA np pc,.slice aA na ac] 25)) we5 from ⟨rK HK.out.1 hb,rK HK.out.2 hb⟩);clear hbf hb HO HBE HK
          go_upto_if 61 with (fail)
          go_cut [8] (ErR w 5 (fun wx=>wx.heap[g5]? = some (.cells (tY m) 81)/\wx.heap[g4]? = some (.cells #[.slice pA np pc,.slice aA na ac] 25)) (T3 (dN l) m))
          case first =>
           as_aux_lemma =>
           cases b with
           |true =>
            go_wp2_with (at_builtin;refine We ee rfl _ _ rfl rfl rfl rfl w.heap.size A1 c1 es we5 17 rfl HO2.out rfl (by omega) HBE2.out.size ?_;intro A3 c3 w6 hown6 hb6 hkp6)
            go_meet;exact ⟨A3,c3,_,by first | rfl | rw [sL],hown6,by rw [sL];omega,fS HFI.out (by decide),sN,HBE2.out.trans hb6,hkp6.row HK2.out.1 (HO2.out.far HK2.out.1 Et),hkp6.row HK2.out.2 (HO2.out.far HK2.out.2 eN)⟩
           |false =>
            go_wp2_with fail;go_meet;exact ⟨A1,c1,es,rfl,HO2.out,by omega,HFI.out,fun h=>(by first | exact HBF.out rfl | exact HBF.out trivial | exact HBF.out),HBE2.out,HK2.out⟩
          case rest =>
           rename World=>wd5;clear HO2 HFI HPR HBE2 HK2 HBF hlen;obtain ⟨A1,c1,es,rfl,hown,hlen,hfi,hpr,hbe,hk⟩:=hcut;have HO:=hid hown;have HFI:=hid hfi;have HPR:=hid hpr;have HBE:=hid hbe;have HK:=hid hk;clear hown hfi hpr hbe hk;go_upto_region 13 with fail;go_cut [68] (fun s wx=>(∃ b:Bool,s=.bool b/\(b=false->T4 m))/\Below wd5.heap.size wd5 wx)
           case first =>
            as_aux_lemma =>
            have c5:=cN HK.out.1 5 (.int .i64 m.t.skills) rfl;go_wp2_with fail;refine (I1 m.t.skills 0 1073741823 _).mono ?_;rintro e w2 ⟨rfl,rfl⟩
            cases hb0:IR m.t.skills 0 1073741823 with
            |false =>
             clear hb0;go_wp2_with fail;go_meet;exact ⟨⟨true,rfl,fun h=>absurd h (by decide)⟩,Below.refl _ _⟩
            |true =>
             have HI0:=hid hb0;clear hb0;go_wp2_with fail;go_meet;exact ⟨⟨false,rfl,fun _=>HI0.out⟩,Below.refl _ _⟩
           case rest =>
            rename World=>we6;obtain ⟨⟨b,rfl,hbf⟩,hb⟩:=hcut;have HBF:=hid hbf;have HO2:=hid (HO.out.below hb);have HBE2:=hid (bL HBE.out hb);have HK2:=hid (show (fun wx=>wx.heap[g5]? = some (.cells (tY m) 81)/\wx.heap[g4]? = some (.cells #[.slice pA np pc,.slice aA na ac] 25)) we6 from ⟨rK HK.out.1 hb,rK HK.out.2 hb⟩);clear hbf hb HO HBE HK
            go_upto_if 68 with (fail)
            go_cut [8] (ErR w 6 (fun wx=>wx.heap[g5]? = some (.cells (tY m) 81)/\wx.heap[g4]? = some (.cells #[.slice pA np pc,.slice aA na ac] 25)) (T3 (dN l) m/\T4 m))
            case first =>
             as_aux_lemma =>
             cases b with
             |true =>
              go_wp2_with (at_builtin;refine We ee rfl _ _ rfl rfl rfl rfl w.heap.size A1 c1 es we6 18 rfl HO2.out rfl (by omega) HBE2.out.size ?_;intro A3 c3 w6 hown6 hb6 hkp6)
              go_meet;exact ⟨A3,c3,_,by first | rfl | rw [sL],hown6,by rw [sL];omega,fS HFI.out (by decide),sN,HBE2.out.trans hb6,hkp6.row HK2.out.1 (HO2.out.far HK2.out.1 Et),hkp6.row HK2.out.2 (HO2.out.far HK2.out.2 eN)⟩
             |false =>
              go_wp2_with fail;go_meet;exact ⟨A1,c1,es,rfl,HO2.out,by omega,HFI.out,fun h=>⟨HPR.out h,(by first | exact HBF.out rfl | exact HBF.out trivial | exact HBF.out)⟩,HBE2.out,HK2.out⟩
            case rest =>
             rename World=>wd6;clear HO2 HFI HPR HBE2 HK2 HBF hlen;obtain ⟨A1,c1,es,rfl,hown,hlen,hfi,hpr,hbe,hk⟩:=hcut;have HO:=hid hown;have HFI:=hid hfi;have HPR:=hid hpr;have HBE:=hid hbe;have HK:=hid hk;clear hown hfi hpr hbe hk;go_upto_region 15 with fail;go_cut [82] (fun s wx=>(∃ b:Bool,s=.bool b/\(b=false->T1 m))/\Below wd6.heap.size wd6 wx)
             case first =>
              as_aux_lemma =>
              have c7:=cN HK.out.1 7 (.int .i64 m.t.opn) rfl;have c8:=cN HK.out.1 8 (.int .i64 m.t.cls) rfl;go_wp2_with fail;refine (I1 m.t.opn 0 m.t.cls _).mono ?_;rintro e w2 ⟨rfl,rfl⟩
              cases hb0:IR m.t.opn 0 m.t.cls with
              |false =>
               clear hb0;go_wp2_with fail;go_meet;exact ⟨⟨true,rfl,fun h=>absurd h (by decide)⟩,Below.refl _ _⟩
              |true =>
               have HI0:=hid hb0;clear hb0;by_cases h4:4096<m.t.cls
               ·have hd4:decide (m.t.cls > 4096)=true:=decide_eq_true h4
                go_wp2_with fail;go_meet;exact ⟨⟨true,rfl,fun h=>absurd h (by decide)⟩,Below.refl _ _⟩
               ·have H4:=hid h4
                have hd4:decide (m.t.cls > 4096)=false:=decide_eq_false h4;go_wp2_with fail;go_meet;exact ⟨⟨false,rfl,fun _=>⟨HI0.out,by have h:=H4.out;omega⟩⟩,Below.refl _ _⟩
             case rest =>
              rename World=>we7;obtain ⟨⟨b,rfl,hbf⟩,hb⟩:=hcut;have HBF:=hid hbf;have HO2:=hid (HO.out.below hb);have HBE2:=hid (bL HBE.out hb);have HK2:=hid (show (fun wx=>wx.heap[g5]? = some (.cells (tY m) 81)/\wx.heap[g4]? = some (.cells #[.slice pA np pc,.slice aA na ac] 25)) we7 from ⟨rK HK.out.1 hb,rK HK.out.2 hb⟩);clear hbf hb HO HBE HK
              go_upto_if 82 with (fail)
              go_cut [8] (ErR w 7 (fun wx=>wx.heap[g5]? = some (.cells (tY m) 81)/\wx.heap[g4]? = some (.cells #[.slice pA np pc,.slice aA na ac] 25)) ((T3 (dN l) m/\T4 m)/\T1 m))
              case first =>
               as_aux_lemma =>
               cases b with
               |true =>
                go_wp2_with (at_builtin;refine We ee rfl _ _ rfl rfl rfl rfl w.heap.size A1 c1 es we7 15 rfl HO2.out rfl (by omega) HBE2.out.size ?_;intro A3 c3 w6 hown6 hb6 hkp6)
                go_meet;exact ⟨A3,c3,_,by first | rfl | rw [sL],hown6,by rw [sL];omega,fS HFI.out (by decide),sN,HBE2.out.trans hb6,hkp6.row HK2.out.1 (HO2.out.far HK2.out.1 Et),hkp6.row HK2.out.2 (HO2.out.far HK2.out.2 eN)⟩
               |false =>
                go_wp2_with fail;go_meet;exact ⟨A1,c1,es,rfl,HO2.out,by omega,HFI.out,fun h=>⟨HPR.out h,(by first | exact HBF.out rfl | exact HBF.out trivial | exact HBF.out)⟩,HBE2.out,HK2.out⟩
              case rest =>
               rename World=>wd7;clear HO2 HFI HPR HBE2 HK2 HBF hlen;obtain ⟨A1,c1,es,rfl,hown,hlen,hfi,hpr,hbe,hk⟩:=hcut;have HO:=hid hown;have HFI:=hid hfi;have HPR:=hid hpr;have HBE:=hid hbe;have HK:=hid hk;clear hown hfi hpr hbe hk;go_upto_region 17 with fail;go_cut [95] (fun s wx=>(∃ b:Bool,s=.bool b/\(b=false->T2 m))/\Below wd7.heap.size wd7 wx)
               case first =>
                as_aux_lemma =>
                have c9:=cN HK.out.1 9 (.int .i64 m.t.drive) rfl;have c10:=cN HK.out.1 10 (.int .i64 m.t.rest) rfl;go_wp2_with fail;refine (I1 m.t.drive 1 4096 _).mono ?_;rintro e w2 ⟨rfl,rfl⟩
                cases hb0:IR m.t.drive 1 4096 with
                |false =>
                 clear hb0;go_wp2_with fail;go_meet;exact ⟨⟨true,rfl,fun h=>absurd h (by decide)⟩,Below.refl _ _⟩
                |true =>
                 have HI0:=hid hb0;clear hb0;go_wp2_with fail;refine (I1 m.t.rest 0 4096 _).mono ?_;rintro e w2 ⟨rfl,rfl⟩
                 cases hb1:IR m.t.rest 0 4096 with
                 |false =>
                  clear hb1;go_wp2_with fail;go_meet;exact ⟨⟨true,rfl,fun h=>absurd h (by decide)⟩,Below.refl _ _⟩
                 |true =>
                  have HI1:=hid hb1;clear hb1;go_wp2_with fail;go_meet;exact ⟨⟨false,rfl,fun _=>⟨HI0.out,HI1.out⟩⟩,Below.refl _ _⟩
               case rest =>
                rename World=>we8;obtain ⟨⟨b,rfl,hbf⟩,hb⟩:=hcut;have HBF:=hid hbf;have HO2:=hid (HO.out.below hb);have HBE2:=hid (bL HBE.out hb);have HK2:=hid (show (fun wx=>wx.heap[g5]? = some (.cells (tY m) 81)/\wx.heap[g4]? = some (.cells #[.slice pA np pc,.slice aA na ac] 25)) we8 from ⟨rK HK.out.1 hb,rK HK.out.2 hb⟩);clear hbf hb HO HBE HK
                go_upto_if 95 with (fail)
                go_cut [8] (ErR w 8 (fun wx=>wx.heap[g5]? = some (.cells (tY m) 81)/\wx.heap[g4]? = some (.cells #[.slice pA np pc,.slice aA na ac] 25)) (((T3 (dN l) m/\T4 m)/\T1 m)/\T2 m))
                case first =>
                 as_aux_lemma =>
                 cases b with
                 |true =>
                  go_wp2_with (at_builtin;refine We ee rfl _ _ rfl rfl rfl rfl w.heap.size A1 c1 es we8 16 rfl HO2.out rfl (by omega) HBE2.out.size ?_;intro A3 c3 w6 hown6 hb6 hkp6)
                  go_meet;exact ⟨A3,c3,_,by first | rfl | rw [sL],hown6,by rw [sL];omega,fS HFI.out (by decide),sN,HBE2.out.trans hb6,hkp6.row HK2.out.1 (HO2.out.far HK2.out.1 Et),hkp6.row HK2.out.2 (HO2.out.far HK2.out.2 eN)⟩
                 |false =>
                  go_wp2_with fail;go_meet;exact ⟨A1,c1,es,rfl,HO2.out,by omega,HFI.out,fun h=>⟨HPR.out h,(by first | exact HBF.out rfl | exact HBF.out trivial | exact HBF.out)⟩,HBE2.out,HK2.out⟩
                case rest =>
                 rename World=>wd8;clear HO2 HFI HPR HBE2 HK2 HBF hlen;obtain ⟨A1,c1,es,rfl,hown,hlen,hfi,hpr,hbe,hk⟩:=hcut;have HO:=hid hown;have HFI:=hid hfi;have HPR:=hid hpr;have HBE:=hid hbe;have HK:=hid hk;clear hown hfi hpr hbe hk;go_upto_region 19 with fail;go_cut [120] (fun s wx=>(∃ b:Bool,s=.bool b/\(b=false->T5 m))/\Below wd8.heap.size wd8 wx)
                 case first =>
                  as_aux_lemma =>
                  have c6:=cN HK.out.1 6 (.int .i64 m.t.prof) rfl;have c11:=cN HK.out.1 11 (.int .i64 m.t.fixed) rfl;have c12:=cN HK.out.1 12 (.int .i64 m.t.mile) rfl;have c13:=cN HK.out.1 13 (.int .i64 m.t.tick) rfl;go_wp2_with fail;refine (I1 m.t.prof 0 7 _).mono ?_;rintro e w2 ⟨rfl,rfl⟩
                  cases hb0:IR m.t.prof 0 7 with
                  |false =>
                   clear hb0;go_wp2_with fail;go_meet;exact ⟨⟨true,rfl,fun h=>absurd h (by decide)⟩,Below.refl _ _⟩
                  |true =>
                   have HI0:=hid hb0;clear hb0;go_wp2_with fail;refine (I1 m.t.fixed 0 100000 _).mono ?_;rintro e w2 ⟨rfl,rfl⟩
                   cases hb1:IR m.t.fixed 0 100000 with
                   |false =>
                    clear hb1;go_wp2_with fail;go_meet;exact ⟨⟨true,rfl,fun h=>absurd h (by decide)⟩,Below.refl _ _⟩
                   |true =>
                    have HI1:=hid hb1;clear hb1;go_wp2_with fail;refine (I1 m.t.mile 0 100 _).mono ?_;rintro e w2 ⟨rfl,rfl⟩
                    cases hb2:IR m.t.mile 0 100 with
                    |false =>
                     clear hb2;go_wp2_with fail;go_meet;exact ⟨⟨true,rfl,fun h=>absurd h (by decide)⟩,Below.refl _ _⟩
                    |true =>
                     have HI2:=hid hb2;clear hb2;go_wp2_with fail;refine (I1 m.t.tick 0 100 _).mono ?_;rintro e w2 ⟨rfl,rfl⟩
                     cases hb3:IR m.t.tick 0 100 with
                     |false =>
                      clear hb3;go_wp2_with fail;go_meet;exact ⟨⟨true,rfl,fun h=>absurd h (by decide)⟩,Below.refl _ _⟩
                     |true =>
                      have HI3:=hid hb3;clear hb3;go_wp2_with fail;go_meet;exact ⟨⟨false,rfl,fun _=>⟨HI1.out,HI2.out,HI3.out⟩⟩,Below.refl _ _⟩
                 case rest =>
                  rename World=>we9;obtain ⟨⟨b,rfl,hbf⟩,hb⟩:=hcut;have HBF:=hid hbf;have HO2:=hid (HO.out.below hb);have HBE2:=hid (bL HBE.out hb);have HK2:=hid (show (fun wx=>wx.heap[g5]? = some (.cells (tY m) 81)/\wx.heap[g4]? = some (.cells #[.slice pA np pc,.slice aA na ac] 25)) we9 from ⟨rK HK.out.1 hb,rK HK.out.2 hb⟩);clear hbf hb HO HBE HK
                  go_upto_if 120 with (fail)
                  go_cut [8] (ErR w 9 (fun wx=>wx.heap[g5]? = some (.cells (tY m) 81)/\wx.heap[g4]? = some (.cells #[.slice pA np pc,.slice aA na ac] 25)) ((((T3 (dN l) m/\T4 m)/\T1 m)/\T2 m)/\T5 m))
                  case first =>
                   as_aux_lemma =>
                   cases b with
                   |true =>
                    go_wp2_with (at_builtin;refine We ee rfl _ _ rfl rfl rfl rfl w.heap.size A1 c1 es we9 2 rfl HO2.out rfl (by omega) HBE2.out.size ?_;intro A3 c3 w6 hown6 hb6 hkp6)
                    go_meet;exact ⟨A3,c3,_,by first | rfl | rw [sL],hown6,by rw [sL];omega,fS HFI.out (by decide),sN,HBE2.out.trans hb6,hkp6.row HK2.out.1 (HO2.out.far HK2.out.1 Et),hkp6.row HK2.out.2 (HO2.out.far HK2.out.2 eN)⟩
                   |false =>
                    go_wp2_with fail;go_meet;exact ⟨A1,c1,es,rfl,HO2.out,by omega,HFI.out,fun h=>⟨HPR.out h,(by first | exact HBF.out rfl | exact HBF.out trivial | exact HBF.out)⟩,HBE2.out,HK2.out⟩
                  case rest =>
                   rename World=>wd9;clear HO2 HFI HPR HBE2 HK2 HBF hlen;obtain ⟨A1,c1,es,rfl,hown,hlen,hfi,hpr,hbe,hk⟩:=hcut;have HO:=hid hown;have HFI:=hid hfi;have HPR:=hid hpr;have HBE:=hid hbe;have HK:=hid hk;clear hown hfi hpr hbe hk;go_wp2_with fail;go_ret
                   exact ⟨A1,c1,es,rfl,HO.out,hlen,HFI.out,fun h=>by rw [HM.out];exact ⟨typeOK_of (HPR.out h).1.1.2 (HPR.out h).1.2,typeX_of (HPR.out h).1.1.1.1 (HPR.out h).1.1.1.2 (HPR.out h).2⟩,HBE.out⟩
end Go.Proofs.YtjcekdiocliddaaGreatDoor

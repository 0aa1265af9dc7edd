/- simplex: leaving. -/
import Derived.Test.YtmppmdmekomjbaaGreatDoorG33
import Derived.Test.YtmppmdmekomjbaaGreatDoorG48
import Derived.BigQuiet
import Derived.BigRegion
import Derived.Deep.LoopGhost
import Derived.Test.YtmppmdmekomjbaaGreatDoorG16
import Derived.Test.YtmppmdmekomjbaaGreatDoorG17
import Derived.Deep.OwnRows
namespace Go.Proofs.YtmppmdmekomjbaaGreatDoor
open Go.RowKit Num
set_option linter.unusedVariables false
attribute [local go_sem] B_size B_get B_toList B_mk B_extract B_append
section
variable {w w':World} {Bs:Nat} {H:SxH} {m k vars cols:Nat} {E:List (List Str)} {bs us:List Nat} {tv:List Bool}
theorem SxM.rows (h:SxM w Bs H m k vars cols E bs us tv) (hm:0<m) (hk:0<k) (hl:∀ i,i<m→(E.getD i []).length=k):∃ (gA:Nat) (g:Nat→Nat),H.A=some ⟨gA,0,none⟩∧gA<w.heap.size∧∀ i,i<m→H.hA i=some ⟨g i,0,none⟩∧g i<w.heap.size∧k≤H.hC i∧H.hC i≤maxLen ∧
  w.cell? ⟨gA,i,none⟩=some (.slice (some ⟨g i,0,none⟩) k (H.hC i))∧(∀ j,j<k→w.cell? ⟨g i,j,none⟩=some (.string (B (cellM E i j)))):=by
 have htl:(E.take m).length=m:=by rw [List.length_take,h.elen];omega
 obtain ⟨gA,e1,_,k1,k2,_⟩:=h.mat.hdr (by omega)
 have hg:∀ i,∃ gi:Nat,i<m→H.hA i=some ⟨gi,0,none⟩∧gi<w.heap.size∧(∀ j,j<k→w.cell? ⟨gi,j,none⟩=some (.string (B (cellM E i j)))):=by
  intro i
  by_cases hi:i<m
  ·obtain ⟨gi,e2,_,k3,k4,_⟩:=h.mat.row (i:=i) (by omega) (by rw [take_getD hi,hl i hi];exact hk)
   rw [take_getD hi,hl i hi] at k4
   refine ⟨gi,fun _=>⟨e2,k3,fun j hj=>?_⟩⟩
   have:=k4 j hj
   unfold cellM at this ⊢
   rwa [take_getD hi] at this
  ·exact ⟨0,fun h=>absurd h hi⟩
 obtain ⟨g,hg⟩:=Classical.axiomOfChoice hg
 refine ⟨gA,g,e1,k1,fun i hi=>?_⟩
 obtain ⟨a1,a2,a3⟩:=hg i hi
 have hc:=h.mat.caps i (by omega)
 rw [take_getD hi,hl i hi] at hc
 refine ⟨a1,a2,hc.1,hc.2,?_,a3⟩
 rw [k2 i (by omega),take_getD hi,hl i hi,a1]
theorem SxM.basAt (h:SxM w Bs H m k vars cols E bs us tv) (hm:0<m) (hb:bs.length=m):∃ gb,H.Bb=some ⟨gb,0,none⟩∧gb<w.heap.size∧∀ i,i<m→w.cell? ⟨gb,i,none⟩=some (.int .i64 (bs.getD i 0:Nat)):=by
 obtain ⟨gb,e,_,h1,h2,_⟩:=h.bas.at_ (by omega)
 exact ⟨gb,e,h1,fun i hi=>by rw [h2 i hi,nums_get _ _ (by omega)];rfl⟩
theorem SxM.priAt (h:SxM w Bs H m k vars cols E bs us tv) (hk:0<k) (hl:(E.getD m []).length=k):∃ gp,H.P=some ⟨gp,0,none⟩∧gp<w.heap.size∧k≤H.cp∧H.cp≤maxLen∧∀ j,j<k→w.cell? ⟨gp,j,none⟩=some (.string (B (cellM E m j))):=by
 obtain ⟨gp,e,_,h1,h2,_⟩:=h.pri.at_ (by omega)
 have hc:=h.pri.cap
 exact ⟨gp,e,h1,hc.1,hc.2,fun j hj=>by rw [h2 j hj,strs_get _ _ (by omega)];rfl⟩
end
theorem wrap_nat {n:Nat} (h:n≤1000000):IntKind.i64.wrap (n:Int)=(n:Int):=by
 simp [IntKind.wrap,IntKind.bits,IntKind.signed]
 omega
def LvS (E:List (List Str)) (T:Mx) (b:Nat→Nat) (c rhs i:Nat) (f:Int) (s:Str):Prop:=(f = -1∧∀ l,l<i→¬ 0<T l c)∨∃ r:Nat,f=r∧Lv T b c rhs i r∧s=quoQS (cellM E r rhs) (cellM E r c)
def LvP (T:Mx) (b:Nat→Nat) (c rhs m:Nat) (f:Int):Prop:=(f = -1∧∀ l,l<m→¬ 0<T l c)∨∃ r:Nat,f=r∧Lv T b c rhs m r
set_option maxHeartbeats 4000000 in
set_option maxRecDepth 100000 in
theorem sxleaving_any {D m vars cols c:Nat} {R:Nat→Nat→Int} {E:List (List Str)} {bs us:List Nat} {tv:List Bool} {T:Mx} {H:SxH} (hE:SxE D m cols R E bs T) (hD:3*D+1≤4096) (Bs:Nat) (w:World)
  (hM:SxM w Bs H m (cols+m+1) vars cols E bs us tv) (hc:c<cols) (hk:cols+m+1≤1000) (hm:m≤500) (he:Env w) :
  Calls Tryz.prog 67 #[.pointer (some ⟨H.kt,0,none⟩),.int .i64 c] w fun e w'=>∃ f:Int,e=.returned (.int .i64 f)∧LvP T (bOf bs m (cols+m+1)) c (cols+m) m f∧Below w.heap.size w w':=by
 have c0:=hM.cell 0
 have HC0:=Lib.hid c0
 have hklt:=hM.lt
 have hcapA:=hM.mat.outer.cap
 rw [List.length_take,hE.len,show min m (m+1)=m by omega] at hcapA
 unfold maxLen at hcapA
 have HROW:=Lib.hid (fun (hm0:0<m)=>hM.rows hm0 (by omega) (fun i hi=>(hE.mat.row (by rw [hE.len];omega)).1))
 have HBAS:=Lib.hid (fun (hm0:0<m)=>hM.basAt hm0 hE.blen)
 have HERR:=Lib.hid hM.err
 have HCAPB:=Lib.hid hM.bas.cap
 have HC2:=Lib.hid (hM.cell 2)
 have HE:=Lib.hid hE
 clear hM hE
 go_enter Tryz.func67,Tryz.ntmps67
 simp only [B_mk]
 go_wp2_with fail
 clear c0
 go_loopw [5,6,7,8,9,10,16] (fun f s _ _ _ _ i wr=>∃ (j:Nat) (f':Int) (s':Str),j≤m∧i=.int .i64 j∧f=.int .i64 f'∧s=.string (B s')∧LvS E T (bOf bs m (cols+m+1)) c (cols+m) j f' s'∧Below w.heap.size w wr) (fun _ _ _ _ _ _ i _=>m - (intOf i).toNat)
 case atStart=>exact ⟨0,-1,[],Nat.zero_le _,rfl,rfl,rfl,.inl ⟨rfl,fun l hl=>absurd hl (Nat.not_lt_zero _)⟩,Below.refl _ _⟩
 case round =>
  obtain ⟨i,f,s,hi,rfl,rfl,rfl,hlv,hb⟩:=hrel
  by_cases hlt:i<m
  ·obtain ⟨gA,g,hgA,hgA2,hrow⟩:=HROW.out (by omega)
   obtain ⟨hgi,hgi2,hc1,hc2,hcell,htext⟩:=hrow i hlt
   unfold maxLen at hc2
   have d3:=(hb.cell (p:=⟨gA,i,none⟩) hgA2).trans hcell
   have da:=(hb.cell (p:=⟨g i,c,none⟩) hgi2).trans (htext c (by omega))
   have db:=(hb.cell (p:=⟨g i,cols+m,none⟩) hgi2).trans (htext (cols+m) (by omega))
   have hEl:=HE.out
   have hrA:=(hEl.mat.cell (i:=i) (c:=c) (by rw [hEl.len];omega) (by omega)).right (by omega) (by omega)
   have hlA:=frx_len (hEl.mat.cell (i:=i) (c:=c) (by rw [hEl.len];omega) (by omega))
   have hlB:=frx_len (hEl.mat.cell (i:=i) (c:=cols+m) (by rw [hEl.len];omega) (by omega))
   have hsg:=signQ_rat hrA
   rw [← hEl.val i (by omega) c (by omega)] at hsg
   have HSG:=Lib.hid (fun (w:World) (he:Env w)=>qsign_any (cellM E i c) w (by omega) he)
   have HQUO:=Lib.hid (fun h0=>hEl.quo (i:=i) (c:=c) hD hlt hc h0)
   have HDV:=Lib.hid (fun h0 (w:World) (hk:ErrAt w H.kt) (he:Env w)=>sxdiv_any H.kt (cellM E i (cols+m)) (cellM E i c) w (by omega) (by omega) (hEl.quo (i:=i) (c:=c) hD hlt hc h0).1 hk he)
   have HLV:=Lib.hid hlv
   have HGA:=Lib.hid hgA
   generalize hg':g i=gi at *
   generalize H.hC i=hci at *
   clear hrow htext hcell hEl hrA hlA hlB hlv hgA hgi hg'
   have hee:=he.below hb
   rw [HGA.out]
   by_cases hpos:0<T i c
   ·have hs1:¬ signQ (cellM E i c)≤0:=by have:=hsg.2.2 hpos;omega
    obtain ⟨q1,q2,q3,q4⟩:=HQUO.out hpos
    have HDV2:=Lib.hid (HDV.out hpos)
    have HQ2:=Lib.hid q2
    have HQ4:=Lib.hid q4
    have HQ3:=Lib.hid q3
    have HQ0:=Lib.hid (show quoQS (cellM E i (cols+m)) (cellM E i c)=quoQS (cellM E i (cols+m)) (cellM E i c) from rfl)
    have HPOS:=Lib.hid hpos
    clear HQUO HDV q1 q2 q3 q4 hsg hpos
    generalize hqq:quoQS (cellM E i (cols+m)) (cellM E i c)=q at *
    have HQQ:=Lib.hid hqq
    clear hqq HQ0
    generalize signQ (cellM E i c)=sg at *
    generalize hae:cellM E i c=a at *
    generalize hbe:cellM E i (cols+m)=bb at *
    have HAE:=Lib.hid hae
    have HBE:=Lib.hid hbe
    clear hae hbe
    have hsub:((cols+m+1:Nat):Int) - 1=((cols+m:Nat):Int):=by omega
    generalize hrr:cols+m=rr at *
    have hrk:rr<rr+1:=by omega
    have hck:c<rr+1:=by omega
    have HRR:=Lib.hid hrr
    have hwrap:=wrap_nat (n:=rr) (by omega)
    clear hrr hsub
    go_wp2_with fail
    refine (HSG.out wr hee).mono ?_
    rintro e w1 ⟨rfl,hb1⟩
    have hbw1:=below_lift3 hb hb1
    have hbd:=below_drew hbw1
    have hed:=he.below hbd
    have hEd:ErrAt w1.drew H.kt:=HERR.out.below hbd
    have y1:gi<w1.drew.heap.size:=Nat.lt_of_lt_of_le hgi2 hbd.size
    have y2:gi<wr.heap.size:=Nat.lt_of_lt_of_le hgi2 hb.size
    have l1:w1.drew.cell? ⟨gi,c,none⟩=some (.string (B a)):=((below_drew hb1).cell (p:=⟨gi,c,none⟩) y2).trans da
    have l2:w1.drew.cell? ⟨gi,rr,none⟩=some (.string (B bb)):=((below_drew hb1).cell (p:=⟨gi,rr,none⟩) y2).trans db
    have HL:=Lib.hid (fun (w2:World) (hb2:Below w1.drew.heap.size w1.drew w2)=>show w2.cell? ⟨gi,c,none⟩=some (.string (B a))∧w2.cell? ⟨gi,rr,none⟩=some (.string (B bb)) from
     ⟨(hb2.cell (p:=⟨gi,c,none⟩) y1).trans l1,(hb2.cell (p:=⟨gi,rr,none⟩) y1).trans l2⟩)
    clear da db d3 y2
    have HQX:=Lib.hid (show q=quoQS (cellM E i rr) (cellM E i c) by rw [HAE.out,HBE.out];exact HQQ.out.symm)
    go_upto_region 7 with fail
    go_cut [9] (fun q' wx=>q'=.string (B q)∧Below w.heap.size w wx)
    case first =>
     go_region_with (go_at_call 108;refine (HDV2.out _ hEd hed).mono ?_;rintro e w2 ⟨rfl,hb2⟩;obtain ⟨m1,m2⟩:=HL.out w2 hb2)
     all_goals
      go_wp2_with fail
      go_meet
      exact ⟨rfl,below_lift3 hbd hb2⟩
    case rest =>
     obtain ⟨rfl,hbw2⟩:=hcut
     clear hbd hed hEd l1 l2 HL y1 hb1 hbw1 hb
     have hee2:=he.below hbw2
     rcases HLV.out with ⟨rfl,hno⟩ | ⟨r,rfl,hr,hs⟩
     ·have HN:=Lib.hid (show LvS E T (bOf bs m (rr+1)) c rr (i+1) i q from .inr ⟨i,rfl,Lv.first hno HPOS.out,HQX.out⟩)
      clear hno
      go_wp2_with fail
      go_quiet (fail)
      go_wp2_with fail
      go_roundw
      case rel=>exact ⟨i+1,i,q,by omega,by go_num,rfl,rfl,HN.out,below_drewN hbw2 _⟩
      case measure=>simp [intOf];omega
     ·have hri:=hr.1
      have hnl:¬ (r:Int)<0:=by omega
      have hrm:r<m:=by omega
      have hQr:=HE.out.quo (i:=r) (c:=c) hD hrm hc hr.2.1
      rw [HRR.out,← hs] at hQr
      have HCM:=Lib.hid (fun (w:World) (he:Env w)=>qcmp_any q s w HQ4.out hQr.2.2.2 he)
      have hcm:=cmpQ_rat HQ2.out hQr.2.1
      rw [HQ3.out,hQr.2.2.1] at hcm
      have HR:=Lib.hid hr
      have HS:=Lib.hid hs
      have HCI:=Lib.hid hcm
      obtain ⟨gb,hgb,hgb2,hbc⟩:=HBAS.out (by omega)
      have hbi:=hbc i hlt
      have hbr:=hbc r hrm
      have hcc:=HC2.out
      rw [hgb] at hcc
      have hBi:=bOf_lt (bs:=bs) (z:=rr+1) hlt
      have hBr:=bOf_lt (bs:=bs) (z:=rr+1) hrm
      have HBI:=Lib.hid hBi
      have HBR:=Lib.hid hBr
      have hcapB:=HCAPB.out
      unfold maxLen at hcapB
      clear hbc hr hs hcm hQr hgb hBi hBr
      generalize cmpQ q s=cm at *
      go_wp2_with fail
      refine (HCM.out _ hee2).mono ?_
      rintro e w3 ⟨rfl,hb3⟩
      have hbw3:=below_lift3 hbw2 hb3
      have e1:=(hbw3.cell (p:=⟨gb,i,none⟩) hgb2).trans hbi
      have e2:=(hbw3.cell (p:=⟨gb,r,none⟩) hgb2).trans hbr
      have e3:=(hbw3.cell (p:=⟨H.kt,2,none⟩) hklt).trans hcc
      clear hbi hbr hcc hbw2 hee2 hb3
      by_cases h1:cm<0
      ·have HN:=Lib.hid (show LvS E T (bOf bs m (rr+1)) c rr (i+1) i q from .inr ⟨i,rfl,Lv.new HR.out HPOS.out (.inl (HCI.out.1.1 h1)),HQX.out⟩)
       clear HBAS HERR HCAPB HE HGA HPOS HQ2 HQ4 HSG HDV2 HQQ HAE HC0 HROW HC2 HQ3 HBE HRR HQX HLV HR HS HBI HBR HCM HCI
       go_wp2_with fail
       have g1:decide (cm<0)=true:=by simpa using h1
       have g2:decide ((r:Int)<0)=false:=by simp
       go_quiet (fail)
       go_wp2_with fail
       go_roundw
       case rel=>exact ⟨i+1,i,q,by omega,by go_num,rfl,rfl,HN.out,below_drewN hbw3 _⟩
       case measure=>simp [intOf];omega
      ·by_cases h2:cm=0
       ·have hth:T i rr / T i c=T r rr / T r c:=by
         have:=HCI.out
         have g1:¬ T i rr / T i c<T r rr / T r c:=fun h=>h1 (this.1.2 h)
         have g2:¬ T r rr / T r c<T i rr / T i c:=fun h=>by have:=this.2.2 h;omega
         grind
        by_cases h3:bs.getD i 0<bs.getD r 0
        ·have HN:=Lib.hid (show LvS E T (bOf bs m (rr+1)) c rr (i+1) i q from .inr ⟨i,rfl,Lv.new HR.out HPOS.out (.inr ⟨hth,by rw [HBI.out,HBR.out];omega⟩),HQX.out⟩)
         have h3':((bs.getD i 0:Nat):Int)<((bs.getD r 0:Nat):Int):=by omega
         clear HBAS HERR HCAPB HE HGA HPOS HQ2 HQ4 HSG HDV2 HQQ HAE HC0 HROW HC2 HQ3 HBE HRR HQX HLV HR HS HBI HBR HCM HCI
         clear hth h3
         generalize bs.getD i 0=bi at *
         generalize bs.getD r 0=br at *
         subst h2
         go_wp2_with fail
         have g2:decide ((r:Int)<0)=false:=by simp
         have g3:decide ((bi:Int)<(br:Int))=true:=decide_eq_true h3'
         go_quiet (fail)
         go_wp2_with fail
         go_roundw
         case rel=>exact ⟨i+1,i,q,by omega,by go_num,rfl,rfl,HN.out,below_drewN hbw3 _⟩
         case measure=>simp [intOf];omega
        ·have HN:=Lib.hid (show LvS E T (bOf bs m (rr+1)) c rr (i+1) r s from .inr ⟨r,rfl,Lv.keep HR.out (.inr ⟨hth.symm,by rw [HBI.out,HBR.out];omega⟩),HS.out⟩)
         have h3':decide (((bs.getD i 0:Nat):Int)<((bs.getD r 0:Nat):Int))=false:=by rw [decide_eq_false_iff_not];omega
         have H3:=Lib.hid h3'
         clear HBAS HERR HCAPB HE HGA HPOS HQ2 HQ4 HSG HDV2 HQQ HAE HC0 HROW HC2 HQ3 HBE HRR HQX HLV HR HS HBI HBR HCM HCI
         clear hth h3 h3'
         generalize bs.getD i 0=bi at *
         generalize bs.getD r 0=br at *
         subst h2
         go_wp2_with fail
         have g2:decide ((r:Int)<0)=false:=by simp
         have g3:=H3.out
         have g4:decide (bi<br)=false:=by rw [decide_eq_false_iff_not] at g3 ⊢;omega
         have g5:(decide (bi<br))≠true:=by rw [g4];decide
         have g6:br≤bi:=by rw [decide_eq_false_iff_not] at g3;omega
         go_quiet (fail)
         go_wp2_with fail
         go_roundw
         case rel=>exact ⟨i+1,r,s,by omega,by go_num,rfl,rfl,HN.out,below_drewN hbw3 _⟩
         case measure=>simp [intOf];omega
       ·have HN:=Lib.hid (show LvS E T (bOf bs m (rr+1)) c rr (i+1) r s from .inr ⟨r,rfl,Lv.keep HR.out (.inl (HCI.out.2.1 (by omega))),HS.out⟩)
        have h2':(cm == 0)=false:=by simpa using h2
        have H1:=Lib.hid (show decide (cm<0)=false by rw [decide_eq_false_iff_not];exact h1)
        clear h2 h1
        clear HBAS HERR HCAPB HE HGA HPOS HQ2 HQ4 HSG HDV2 HQQ HAE HC0 HROW HC2 HQ3 HBE HRR HQX HLV HR HS HBI HBR HCM HCI
        go_wp2_with fail
        have g1:=H1.out
        have g2:decide ((r:Int)<0)=false:=by simp
        go_quiet (fail)
        go_wp2_with fail
        go_roundw
        case rel=>exact ⟨i+1,r,s,by omega,by go_num,rfl,rfl,HN.out,below_drewN hbw3 _⟩
        case measure=>simp [intOf];omega
   ·have hs1:signQ (cellM E i c)≤0:=by
     have h1:¬ 0<signQ (cellM E i c):=fun h=>hpos (hsg.2.1 h)
     omega
    have HN:=Lib.hid (show LvS E T (bOf bs m (cols+m+1)) c (cols+m) (i+1) f s from by
     rcases HLV.out with ⟨h1,h2⟩ | ⟨r,h1,h2,h3⟩
     ·refine .inl ⟨h1,fun l hl=>?_⟩
      by_cases e:l=i
      ·rw [e];exact hpos
      ·exact h2 l (by omega)
     ·exact .inr ⟨r,h1,h2.skip hpos,h3⟩)
    clear HQUO HDV hsg hpos HLV
    generalize signQ (cellM E i c)=sg at *
    generalize cellM E i c=a at *
    clear db
    go_wp2_with fail
    refine (HSG.out wr hee).mono ?_
    rintro e w1 ⟨rfl,hb1⟩
    have hbw1:=below_lift3 hb hb1
    clear da d3
    go_wp2_with fail
    go_roundw
    case rel=>exact ⟨i+1,f,s,by omega,by go_num,rfl,rfl,HN.out,hbw1⟩
    case measure=>simp [intOf];omega
  ·have hlm:i=m:=by omega
   have HX:=Lib.hid (show LvP T (bOf bs m (cols+m+1)) c (cols+m) m f by
    rw [hlm] at hlv
    rcases hlv with h | ⟨r,h1,h2,_⟩
    ·exact .inl h
    ·exact .inr ⟨r,h1,h2⟩)
   have hix:¬ (i:Int)<(m:Int):=by omega
   clear hlm hlv
   go_wp2_with fail
   go_ret
   exact ⟨f,rfl,HX.out,hb⟩
def Steps (m N cols rhs z:Nat) (R:Nat→Nat→Int) (K:Nat) (T:Mx) (b:Nat→Nat):Prop:=∃ (Tc:Nat→Mx) (bc:Nat→Nat→Nat) (cc rc:Nat→Nat),Chain m N cols rhs z R K Tc bc cc rc∧Tc K=T∧bc K=b
theorem Steps.zero {m N cols rhs z:Nat} {R:Nat→Nat→Int} {T:Mx} {b:Nat→Nat} (h:Feas m N cols rhs z R T b):Steps m N cols rhs z R 0 T b :=
 ⟨fun _=>T,fun _=>b,fun _=>0,fun _=>0,⟨h,fun k hk=>absurd hk (Nat.not_lt_zero _),fun k hk=>absurd hk (Nat.not_lt_zero _),fun k hk=>absurd hk (Nat.not_lt_zero _)⟩,rfl,rfl⟩
theorem Steps.lt {m N cols rhs z K:Nat} {R:Nat→Nat→Int} {T:Mx} {b:Nat→Nat} (h:Steps m N cols rhs z R K T b) (hN:cols≤N) (hr:rhs<N):K<N ^ m:=by
 obtain ⟨_,_,_,_,hc,_⟩:=h;exact hc.ends hN hr
theorem Steps.feas {m N cols rhs z K:Nat} {R:Nat→Nat→Int} {T:Mx} {b:Nat→Nat} (h:Steps m N cols rhs z R K T b) (hN:cols≤N):Feas m N cols rhs z R T b:=by
 obtain ⟨_,_,_,_,hc,h1,h2⟩:=h
 have:=hc.feas hN K (Nat.le_refl _)
 rwa [h1,h2] at this
theorem Steps.succ {m N cols rhs z K c r:Nat} {R:Nat→Nat→Int} {T:Mx} {b:Nat→Nat} (h:Steps m N cols rhs z R K T b) (hp:Piv1 m cols rhs T b c r):Steps m N cols rhs z R (K+1) (pivM T r c) (fun l=>if l=r then c else b l):=by
 obtain ⟨Tc,bc,cc,rc,hc,h1,h2⟩:=h
 subst h1 h2
 refine ⟨fun k=>if k≤K then Tc k else pivM (Tc K) r c,fun k=>if k≤K then bc k else fun l=>if l=r then c else bc K l,fun k=>if k<K then cc k else c,fun k=>if k<K then rc k else r,⟨?_,?_,?_,?_⟩,?_,?_⟩
 ·simp only [Nat.zero_le,if_true];exact hc.first
 ·intro k hk
  show Piv1 m cols rhs (if k≤K then Tc k else _) (if k≤K then bc k else _) (if k<K then cc k else c) (if k<K then rc k else r)
  rw [if_pos (by omega),if_pos (by omega)]
  by_cases e:k<K
  ·rw [if_pos e,if_pos e];exact hc.step k e
  ·rw [if_neg e,if_neg e,show k=K by omega];exact hp
 ·intro k hk
  show (if k+1≤K then Tc (k+1) else pivM (Tc K) r c)=pivM (if k≤K then Tc k else _) (if k<K then rc k else r) (if k<K then cc k else c)
  rw [if_pos (show k≤K by omega)]
  by_cases e:k<K
  ·rw [if_pos (by omega),if_pos e,if_pos e];exact hc.nextT k e
  ·rw [if_neg (by omega),if_neg e,if_neg e,show k=K by omega]
 ·intro k hk
  show (if k+1≤K then bc (k+1) else fun l=>if l=r then c else bc K l)=fun l=>if l=(if k<K then rc k else r) then (if k<K then cc k else c) else (if k≤K then bc k else _) l
  rw [if_pos (show k≤K by omega)]
  by_cases e:k<K
  ·rw [if_pos (by omega),if_pos e,if_pos e];exact hc.nextb k e
  ·rw [if_neg (by omega),if_neg e,if_neg e,show k=K by omega]
 ·show (if K+1≤K then _ else _)=_
  rw [if_neg (by omega)]
 ·show (if K+1≤K then _ else _)=_
  rw [if_neg (by omega)]
def ImpP (m cols:Nat) (T:Mx) (f:Int):Prop:=(f = -1∧∀ j,j<cols→0≤T m j)∨∃ c:Nat,f=c∧c<cols∧T m c<0∧∀ l,l<m→T l c≤0
structure PhS (D m cols:Nat) (R:Nat→Nat→Int) (J:Mx→(Nat→Nat)→Prop) (E:List (List Str)) (bs:List Nat) (T:Mx) (K:Nat):Prop where
 ent:SxE D m cols R E bs T
 steps:Steps m (cols+m+2) cols (cols+m) (cols+m+1) R K T (bOf bs m (cols+m+1))
 inv:J T (bOf bs m (cols+m+1))
structure PhEnd (D m cols:Nat) (R:Nat→Nat→Int) (J:Mx→(Nat→Nat)→Prop) (E:List (List Str)) (bs:List Nat) (T:Mx) (f:Int):Prop where
 ent:SxE D m cols R E bs T
 feas:Feas m (cols+m+2) cols (cols+m) (cols+m+1) R T (bOf bs m (cols+m+1))
 inv:J T (bOf bs m (cols+m+1))
 fin:ImpP m cols T f
theorem lv_piv {m cols c r:Nat} {T:Mx} {b:Nat→Nat} (hc:c<cols) (hn:T m c<0) (hl:∀ k,k<c→0≤T m k) (h:Lv T b c (cols+m) m r):Piv1 m cols (cols+m) T b c r :=
 ⟨hc,hn,hl,h.1,h.2.1,fun i hi hp=>h.2.2 i hi hp⟩
set_option maxHeartbeats 4000000 in
set_option maxRecDepth 100000 in
theorem sximprove_any {D d m vars cols:Nat} {R:Nat→Nat→Int} {E:List (List Str)} {bs us:List Nat} {tv:List Bool} {T:Mx} {H:SxH} {J:Mx→(Nat→Nat)→Prop} (hd1:1≤d) (hd:∀ s,s<m+1→∀ c,c<cols+m+2→dl (R s c)≤d) (hg:gr m d≤D) (hD:3*D+1≤4096)
  (hJ:∀ T b c r,Feas m (cols+m+2) cols (cols+m) (cols+m+1) R T b→J T b→Piv1 m cols (cols+m) T b c r→J (pivM T r c) (fun l=>if l=r then c else b l))
  (hE:SxE D m cols R E bs T) (hF:Feas m (cols+m+2) cols (cols+m) (cols+m+1) R T (bOf bs m (cols+m+1))) (hJ0:J T (bOf bs m (cols+m+1))) (Bs:Nat) (w0 w:World) (h0:Below w0.heap.size w0 w) (hB:w0.heap.size≤Bs)
  (hM:SxM w Bs H m (cols+m+1) vars cols E bs us tv) (hk:cols+m+1≤1000) (hm:m≤500) (he:Env w0) :
  Calls Tryz.prog 26 #[.pointer (some ⟨H.kt,0,none⟩)] w fun e w'=>∃ (f:Int) (E':List (List Str)) (bs':List Nat) (T':Mx),e=.returned (.int .i64 f)∧SxM w' Bs H m (cols+m+1) vars cols E' bs' us tv∧PhEnd D m cols R J E' bs' T' f∧Below w0.heap.size w0 w'∧w.heap.size≤w'.heap.size:=by
 have HPV:=Lib.hid (fun (E:List (List Str)) (bs:List Nat) (T:Mx) (hE:SxE D m cols R E bs T) (r c:Nat) (hr:r<m) (hc:c<cols) (hne:cellM E r c≠[48])=>hE.pivot hd1 hd hg hD hr hc hne)
 have HJ:=Lib.hid hJ
 have HS0:=Lib.hid (show PhS D m cols R J E bs T 0 from ⟨hE,Steps.zero hF,hJ0⟩)
 have HD:=Lib.hid hD
 clear hE hF hJ0 hJ hd hg hD
 go_enter Tryz.func26,Tryz.ntmps26
 go_wp2_with fail
 go_loopg [2,3,4,5,15] ((cols+m+2) ^ m) (fun g _ _ _ _ _ wr=>∃ (K:Nat) (E':List (List Str)) (bs':List Nat) (T':Mx),K+g=(cols+m+2) ^ m∧SxM wr Bs H m (cols+m+1) vars cols E' bs' us tv∧PhS D m cols R J E' bs' T' K∧Below w0.heap.size w0 wr∧w.heap.size≤wr.heap.size)
 case atStart=>exact ⟨0,E,bs,T,Nat.zero_add _,hM,HS0.out,h0,Nat.le_refl _⟩
 case round =>
  clear hM h0 HS0
  obtain ⟨K,E',bs',T',hK,hM,hS,hb0,hsz⟩:=hrel
  have HKK:=Lib.hid hK
  clear hK
  have c7:=hM.cell 7
  have c5:=hM.cell 5
  have c1:=hM.cell 1
  have hlt:=hM.lt
  obtain ⟨gp,hgp,hgp2,hcp1,hcp2,hpc⟩:=hM.priAt (by omega) (hS.ent.mat.row (by rw [hS.ent.len];omega)).1
  unfold maxLen at hcp2
  have HGP:=Lib.hid hgp
  have HPC:=Lib.hid hpc
  have HM:=Lib.hid hM
  have HS:=Lib.hid hS
  have c1:wr.cell? ⟨H.kt,1,none⟩=some (.slice (some ⟨gp,0,none⟩) (cols+m+1) H.cp):=by rw [← hgp];exact c1
  have HC1:=Lib.hid c1
  clear hgp hpc hM hS c1
  go_wp2_with fail
  go_loopw [3,4,15] (fun q _ i wx=>∃ j:Nat,j≤cols∧i=.int .i64 j∧q=.int .i64 (-1)∧(∀ l,l<j→0≤T' m l)∧Below wr.heap.size wr wx) (fun _ _ i _=>cols - (intOf i).toNat)
  case atStart=>exact ⟨0,Nat.zero_le _,rfl,rfl,fun l hl=>absurd hl (Nat.not_lt_zero _),Below.refl _ _⟩
  case round =>
   obtain ⟨j,hj,rfl,rfl,hall,hbx⟩:=hrel
   rename_i wo
   have HALL:=Lib.hid hall
   clear hall c5 c7
   have hS:=HS.out
   have hlen:=hS.ent.len
   by_cases hlt2:j<cols
   ·have hcm:=hS.ent.mat.cell (i:=m) (c:=j) (by omega) (by omega)
    have hl1:=frx_len hcm
    have hsg:=signQ_rat (hcm.right (by have:=HD.out;omega) (by have:=HD.out;omega))
    rw [← hS.ent.val m (by omega) j (by omega)] at hsg
    have dp:=(hbx.cell (p:=⟨gp,j,none⟩) hgp2).trans (HPC.out j (by omega))
    have d1:=(hbx.cell (p:=⟨H.kt,1,none⟩) hlt).trans HC1.out
    have HSG:=Lib.hid (qsign_any (cellM E' m j) wr (by have:=HD.out;omega) (he.below (below_lift3 hb0 hbx)))
    have HSI:=Lib.hid hsg
    clear hcm hl1 hsg hS hlen
    by_cases hneg:T' m j<0
    ·have hs1:signQ (cellM E' m j)<0:=HSI.out.1.2 hneg
     have HNEG:=Lib.hid hneg
     clear hneg
     generalize signQ (cellM E' m j)=sg at *
     generalize cellM E' m j=a at *
     go_wp2_with fail
     refine HSG.out.mono ?_
     rintro e w2 ⟨rfl,hb2⟩
     have hbx2:=below_lift3 hbx hb2
     have hM2:=HM.out.below hbx2
     have HLV:=Lib.hid (sxleaving_any HS.out.ent HD.out Bs w2 hM2 hlt2 hk hm (he.below (below_lift3 hb0 hbx2)))
     have HM2:=Lib.hid hM2
     clear dp d1 hM2 hb2 hbx
     have hjn:¬ (j:Int)<0:=by omega
     go_wp2_with fail
     refine HLV.out.mono ?_
     rintro e w3 ⟨f,rfl,hf,hb3⟩
     have hbx3:=below_lift3 hbx2 hb3
     rcases hf with ⟨rfl,hno⟩ | ⟨r,rfl,hr⟩
     ·have HX:=Lib.hid (show PhEnd D m cols R J E' bs' T' j from ⟨HS.out.ent,HS.out.steps.feas (by omega),HS.out.inv,.inr ⟨j,rfl,hlt2,HNEG.out,fun l hl=>by have:=hno l hl;grind⟩⟩)
      have hM3:=HM2.out.below hb3
      clear hno
      go_wp2_with fail
      go_ret
      exact ⟨j,E',bs',T',rfl,hM3,HX.out,below_lift3 hb0 hbx3,Nat.le_trans hsz hbx3.size⟩
     ·have hrm:=hr.1
      have hpv:=lv_piv hlt2 HNEG.out HALL.out hr
      have hne:cellM E' r j≠[48]:=fun e=>by
       have h1:=HS.out.ent.val r (by omega) j (by omega)
       rw [e,rq_zero] at h1
       have:=hr.2.1
       rw [h1] at this
       exact absurd this (by decide)
      obtain ⟨hO,hE2⟩:=HPV.out E' bs' T' HS.out.ent r j hrm hlt2 hne
      have HPC2:=Lib.hid (sxpivot_any (row:=r) (col:=j) hO HD.out Bs w0 w3 (below_lift3 hb0 hbx3) hB (HM2.out.below hb3) hrm hk hm HS.out.ent.blen he)
      have hKlt:=HS.out.steps.lt (by omega) (by omega)
      have HN:=Lib.hid (show PhS D m cols R J (clearM E' r j) (bs'.set r j) (pivM T' r j) (K+1) from ⟨hE2,by rw [bOf_set HS.out.ent.blen hrm];exact HS.out.steps.succ hpv,by rw [bOf_set HS.out.ent.blen hrm];exact HJ.out _ _ _ _ (HS.out.steps.feas (by omega)) HS.out.inv hpv⟩)
      have HGK:=Lib.hid (show gk - 1<gk∧K+1+(gk - 1)=(cols+m+2) ^ m by have:=HKK.out;omega)
      have hrn:¬ (r:Int)<0:=by omega
      clear hr hpv hne hO hE2 hKlt
      go_wp2_with fail
      refine HPC2.out.mono ?_
      rintro e w4 ⟨rfl,hM4,hb4,hsz4⟩
      go_wp2_with fail
      go_roundg (gk - 1)
      case measure=>exact HGK.out.1
      case rel=>exact ⟨K+1,_,_,_,HGK.out.2,hM4,HN.out,hb4,Nat.le_trans (Nat.le_trans hsz hbx3.size) hsz4⟩
    ·have hs1:¬ signQ (cellM E' m j)<0:=fun h=>hneg (HSI.out.1.1 h)
     have HN:=Lib.hid (show ∀ l,l<j+1→0≤T' m l from fun l hl=>by
      by_cases e:l=j
      ·rw [e];grind
      ·exact HALL.out l (by omega))
     clear hneg
     generalize signQ (cellM E' m j)=sg at *
     generalize cellM E' m j=a at *
     go_wp2_with fail
     refine HSG.out.mono ?_
     rintro e w2 ⟨rfl,hb2⟩
     go_wp2_with fail
     go_roundw
     case rel=>exact ⟨j+1,by omega,by go_num,rfl,HN.out,below_lift3 hbx hb2⟩
     case measure=>simp [intOf];omega
   ·have hjc:j=cols:=by omega
    have hjx:¬ (j:Int)<(cols:Int):=by omega
    have HX:=Lib.hid (show PhEnd D m cols R J E' bs' T' (-1) from ⟨hS.ent,hS.steps.feas (by omega),hS.inv,.inl ⟨rfl,fun l hl=>HALL.out l (by omega)⟩⟩)
    have hM3:=HM.out.below hbx
    clear hjc hS hlen
    go_wp2_with fail
    go_ret
    first
     | exact ⟨-1,E',bs',T',rfl,hM3,HX.out,below_lift3 hb0 hbx,Nat.le_trans hsz hbx.size⟩
     | exact ⟨-1,rfl,E',bs',hM3,⟨T',HX.out⟩,below_lift3 hb0 hbx,Nat.le_trans hsz hbx.size⟩
     | exact ⟨-1,rfl,E',bs',T',hM3,HX.out,below_lift3 hb0 hbx,Nat.le_trans hsz hbx.size⟩
     | exact ⟨-1,rfl,⟨E',bs',hM3,⟨T',HX.out⟩⟩,below_lift3 hb0 hbx,Nat.le_trans hsz hbx.size⟩
     | skip
structure ClnP (m cols:Nat) (T:Mx) (b:Nat→Nat) (i:Nat):Prop where
 pos:∀ l,l<m→0≤T l (cols+m)
 zer:∀ l,l<m→cols≤b l→T l (cols+m)=0
 done:∀ l,l<i→cols≤b l→∀ j,j<cols→T l j=0
theorem ClnP.skip {m cols i:Nat} {T:Mx} {b:Nat→Nat} (h:ClnP m cols T b i) (hi:cols≤b i→∀ j,j<cols→T i j=0):ClnP m cols T b (i+1) :=
 ⟨h.pos,h.zer,fun l hl=>by
  by_cases e:l=i
  ·rw [e];exact hi
  ·exact h.done l (by omega)⟩
theorem ClnP.piv {m cols i k:Nat} {T:Mx} {b:Nat→Nat} (h:ClnP m cols T b i) (hi:i<m) (hb:cols≤b i) (hk:k<cols) (h0:T i k≠0):ClnP m cols (pivM T i k) (fun l=>if l=i then k else b l) (i+1):=by
 have hz:=h.zer i hi hb
 have hr:∀ l,l<m→pivM T i k l (cols+m)=T l (cols+m):=fun l hl=>by
  unfold pivM
  rw [hz]
  by_cases e:l=i
  ·rw [if_pos e,e,hz,Rat.div_def,Rat.zero_mul]
  ·rw [if_neg e,Rat.div_def,Rat.zero_mul];grind
 refine ⟨fun l hl=>by rw [hr l hl];exact h.pos l hl,fun l hl hc=>?_,fun l hl hc j hj=>?_⟩
 ·rw [hr l hl]
  by_cases e:l=i
  ·rw [e];exact hz
  ·have hc:cols≤if l=i then k else b l:=hc
   rw [if_neg e] at hc
   exact h.zer l hl hc
 ·have hc:cols≤if l=i then k else b l:=hc
  by_cases e:l=i
  ·rw [if_pos e] at hc;omega
  ·rw [if_neg e] at hc
   have h1:=h.done l (by omega) hc
   unfold pivM
   rw [if_neg e,h1 j hj,h1 k hk];grind
set_option maxHeartbeats 4000000 in
set_option maxRecDepth 100000 in
theorem sxclean_any {D d m vars cols:Nat} {R:Nat→Nat→Int} {E:List (List Str)} {bs us:List Nat} {tv:List Bool} {T:Mx} {H:SxH} (hd1:1≤d) (hd:∀ s,s<m+1→∀ c,c<cols+m+2→dl (R s c)≤d) (hg:gr m d≤D) (hD:3*D+1≤4096)
  (hE:SxE D m cols R E bs T) (hC:ClnP m cols T (bOf bs m (cols+m+1)) 0) (Bs:Nat) (w0 w:World) (h0:Below w0.heap.size w0 w) (hB:w0.heap.size≤Bs)
  (hM:SxM w Bs H m (cols+m+1) vars cols E bs us tv) (hk:cols+m+1≤1000) (hm:m≤500) (he:Env w0) :
  Calls Tryz.prog 29 #[.pointer (some ⟨H.kt,0,none⟩)] w fun e w'=>e=.returned (.tuple #[])∧(∃ (E':List (List Str)) (bs':List Nat) (T':Mx),SxM w' Bs H m (cols+m+1) vars cols E' bs' us tv∧SxE D m cols R E' bs' T'∧ClnP m cols T' (bOf bs' m (cols+m+1)) m)∧Below w0.heap.size w0 w'∧w.heap.size≤w'.heap.size:=by
 have HPV:=Lib.hid (fun (E:List (List Str)) (bs:List Nat) (T:Mx) (hE:SxE D m cols R E bs T) (r c:Nat) (hr:r<m) (hc:c<cols) (hne:cellM E r c≠[48])=>hE.pivot hd1 hd hg hD hr hc hne)
 have c0:=hM.cell 0
 have hA0:0<m→∃ gA,H.A=some ⟨gA,0,none⟩:=fun h=>by
  obtain ⟨gA,_,e,_⟩:=hM.rows h (by omega) (fun i hi=>(hE.mat.row (by rw [hE.len];omega)).1)
  exact ⟨gA,e⟩
 have hcapA:=hM.mat.outer.cap
 rw [List.length_take,hE.len,show min m (m+1)=m by omega] at hcapA
 unfold maxLen at hcapA
 have hcapB:=hM.bas.cap
 unfold maxLen at hcapB
 have HA0:=Lib.hid hA0
 have HD:=Lib.hid hD
 have HS0:=Lib.hid hE
 have HC0:=Lib.hid hC
 have HM0:=Lib.hid hM
 clear hE hC hd hg hD hA0 hM
 go_enter Tryz.func29,Tryz.ntmps29
 simp only [B_mk]
 go_wp2_with fail
 clear c0
 go_loopw [2,3,4,10] (fun _ _ _ i wr=>∃ (j:Nat) (E':List (List Str)) (bs':List Nat) (T':Mx),j≤m∧i=.int .i64 j∧SxM wr Bs H m (cols+m+1) vars cols E' bs' us tv∧SxE D m cols R E' bs' T'∧ClnP m cols T' (bOf bs' m (cols+m+1)) j∧Below w0.heap.size w0 wr∧w.heap.size≤wr.heap.size) (fun _ _ _ i _=>m - (intOf i).toNat)
 case atStart=>exact ⟨0,E,bs,T,Nat.zero_le _,rfl,HM0.out,HS0.out,HC0.out,h0,Nat.le_refl _⟩
 case round =>
  clear h0 HS0 HC0 HM0
  obtain ⟨i,E',bs',T',hi,rfl,hM,hS,hC,hb0,hsz⟩:=hrel
  have HM:=Lib.hid hM
  have HS:=Lib.hid hS
  have HC:=Lib.hid hC
  by_cases hlt:i<m
  ·obtain ⟨gA,g,hgA,hgA2,hrow⟩:=hM.rows (by omega) (by omega) (fun i hi=>(hS.mat.row (by rw [hS.len];omega)).1)
   obtain ⟨hgi,hgi2,hc1,hc2,hcell,htext⟩:=hrow i hlt
   unfold maxLen at hc2
   obtain ⟨gb,hgb,hgb2,hbc⟩:=hM.basAt (by omega) hS.blen
   have hbi:=hbc i hlt
   have c2:=hM.cell 2
   rw [hgb] at c2
   have c5:=hM.cell 5
   have hBi:=bOf_lt (bs:=bs') (z:=cols+m+1) hlt
   have HBI:=Lib.hid hBi
   have HT:=Lib.hid htext
   have HGA:=Lib.hid hgA
   clear hM hS hC hgi hrow hbc hgb hBi htext hgA
   generalize g i=gi at *
   generalize H.hC i=hci at *
   rw [HGA.out]
   clear HGA HA0
   by_cases hbs:bs'.getD i 0<cols
   ·have hd':decide (((bs'.getD i 0:Nat):Int)<(cols:Int))=true:=by rw [decide_eq_true_eq];omega
    have HN:=Lib.hid (HC.out.skip (fun h=>by rw [HBI.out] at h;omega))
    have hbsI:((bs'.getD i 0:Nat):Int)<(cols:Int):=by omega
    clear hbs
    generalize bs'.getD i 0=bi at *
    go_wp2_with fail
    go_quiet (fail)
    go_wp2_with fail
    go_roundw
    case rel=>exact ⟨i+1,E',bs',T',by omega,by go_num,HM.out.below (below_drewN (Below.refl _ _) _),HS.out,HN.out,below_drewN hb0 _,hsz⟩
    case measure=>simp [intOf];omega
   ·have hbsI:¬ ((bs'.getD i 0:Nat):Int)<(cols:Int):=by omega
    have HBG:=Lib.hid (show cols≤bOf bs' m (cols+m+1) i by rw [HBI.out];omega)
    clear hbs
    generalize bs'.getD i 0=bi at *
    go_wp2_with fail
    go_quiet (fail)
    go_wp2_with fail
    have hbq:=below_drewN (Below.refl wr.heap.size wr) nq
    have HMq:=Lib.hid (HM.out.below hbq)
    have hb0q:=below_drewN hb0 nq
    have c5q:=HMq.out.cell 5
    have hTq:=Lib.hid (fun j (hj:j<cols+m+1)=>show (wr.drewN nq).cell? ⟨gi,j,none⟩=some (.string (B (cellM E' i j))) from HT.out j hj)
    go_wp2_with fail
    clear c2 c5 hbi hcell
    generalize hwq:wr.drewN nq=wq at *
    go_loopw [4,31] (fun _ q wx=>∃ j:Nat,j≤cols∧q=.int .i64 j∧wx=wq∧∀ l,l<j→T' i l=0) (fun _ q _=>cols - (intOf q).toNat)
    case atStart=>exact ⟨0,Nat.zero_le _,rfl,rfl,fun l hl=>absurd hl (Nat.not_lt_zero _)⟩
    case round =>
     obtain ⟨j,hj,rfl,hwx,hall⟩:=hrel
     obtain rfl:=hwx.symm
     have HALL:=Lib.hid hall
     clear hall
     by_cases hlj:j<cols
     ·have d1:=hTq.out j (by omega)
      have hz:=HS.out.zero (i:=i) (j:=j) (by have:=HD.out;omega) (by omega) (by omega)
      by_cases hc0:cellM E' i j=[48]
      ·have HN:=Lib.hid (show ∀ l,l<j+1→T' i l=0 from fun l hl=>by
        by_cases e:l=j
        ·rw [e];exact hz.2 hc0
        ·exact HALL.out l (by omega))
       rw [hc0] at d1
       clear hc0 hz
       go_wp2_with fail
       go_roundw
       case rel=>exact ⟨j+1,by omega,by go_num,by trivial,HN.out⟩
       case measure=>simp [intOf];omega
      ·have hT0:T' i j≠0:=fun e=>hc0 (hz.1 e)
       obtain ⟨hO,hE2⟩:=HPV.out E' bs' T' HS.out i j hlt hlj hc0
       have HN:=Lib.hid (show ClnP m cols (pivM T' i j) (bOf (bs'.set i j) m (cols+m+1)) (i+1) by
        rw [bOf_set HS.out.blen hlt]
        exact HC.out.piv hlt HBG.out hlj hT0)
       have HE2:=Lib.hid hE2
       have HPC:=Lib.hid (sxpivot_any (row:=i) (col:=j) hO HD.out Bs w0 wq hb0q hB HMq.out hlt hk hm HS.out.blen he)
       have hc0':(cellM E' i j == [48])=false:=by simpa using hc0
       have hszq:w.heap.size≤wq.heap.size:=by rw [← hwq];exact hsz
       clear hz hT0 hO hE2 hc0
       generalize hae:cellM E' i j=a at *
       clear hae
       go_wp2_with fail
       refine HPC.out.mono ?_
       rintro e w4 ⟨rfl,hM4,hb4,hsz4⟩
       go_wp2_with fail
       go_roundw
       case rel=>exact ⟨i+1,_,_,_,by omega,by go_num,hM4,HE2.out,HN.out,hb4,Nat.le_trans hszq hsz4⟩
       case measure=>simp [intOf];omega
     ·have hjx:¬ (j:Int)<(cols:Int):=by omega
      have HN:=Lib.hid (HC.out.skip (fun _ l hl=>HALL.out l (by omega)))
      have hszq:w.heap.size≤wq.heap.size:=by rw [← hwq];exact hsz
      go_wp2_with fail
      go_roundw
      case rel=>exact ⟨i+1,E',bs',T',by omega,by go_num,HMq.out,HS.out,HN.out,hb0q,hszq⟩
      case measure=>simp [intOf];omega
  ·have him:i=m:=by omega
   have hix:¬ (i:Int)<(m:Int):=by omega
   have HN:=Lib.hid (show ClnP m cols T' (bOf bs' m (cols+m+1)) m by rw [← him];rw [him] at hC ⊢;exact hC)
   clear him hC hM hS
   go_wp2_with fail
   go_end0
   first
    | exact ⟨rfl,⟨E',bs',T',HM.out,HS.out,HN.out⟩,hb0,hsz⟩
    | exact ⟨rfl,⟨E',bs',HM.out,T',HS.out,HN.out⟩,hb0,hsz⟩
section
variable {w w':World} {Bs:Nat} {H:SxH} {m k vars cols:Nat} {E:List (List Str)} {bs us:List Nat} {tv:List Bool}
theorem boolsV_get (tv:List Bool) (j:Nat) (h:j<tv.length):(boolsV tv)[j]? = some (.bool (tv.getD j false)):=by
 unfold boolsV;rw [List.getElem?_map,List.getElem?_eq_getElem h,List.getD_eq_getElem?_getD,List.getElem?_eq_getElem h];rfl
theorem SxM.uniAt (h:SxM w Bs H m k vars cols E bs us tv) (hm:0<m) (hb:us.length=m):∃ gb,H.U=some ⟨gb,0,none⟩∧gb<w.heap.size∧∀ i,i<m→w.cell? ⟨gb,i,none⟩=some (.int .i64 (us.getD i 0:Nat)):=by
 obtain ⟨gb,e,_,h1,h2,_⟩:=h.uni.at_ (by omega)
 exact ⟨gb,e,h1,fun i hi=>by rw [h2 i hi,nums_get _ _ (by omega)];rfl⟩
theorem SxM.turAt (h:SxM w Bs H m k vars cols E bs us tv) (hm:0<m) (hb:tv.length=m):∃ gb,H.V=some ⟨gb,0,none⟩∧gb<w.heap.size∧∀ i,i<m→w.cell? ⟨gb,i,none⟩=some (.bool (tv.getD i false)):=by
 obtain ⟨gb,e,_,h1,h2,_⟩:=h.tur.at_ (by omega)
 exact ⟨gb,e,h1,fun i hi=>by rw [h2 i hi,boolsV_get _ _ (by omega)]⟩
end
theorem strs_snoc_x (ys:List Str) (x:Str):strs ys ++ [.string (B x)]=strs (ys ++ [x]):=by unfold strs;simp
def DuP (D m cols:Nat) (T:Mx) (κ:Rat) (tv:List Bool) (l:Nat) (y:Str):Prop:=FrD (D+4) (D+4) y∧rq y=(if tv.getD l false then -1 else 1)*(κ - T m (cols+l))
def DuL (D m cols:Nat) (T:Mx) (κ:Rat) (tv:List Bool) (j:Nat) (ys:List Str):Prop:=ys.length=j∧∀ l,l<j→DuP D m cols T κ tv l (ys.getD l [])
theorem DuL.snoc {D m cols j:Nat} {T:Mx} {κ:Rat} {tv:List Bool} {ys:List Str} {y:Str} (h:DuL D m cols T κ tv j ys) (hy:DuP D m cols T κ tv j y):DuL D m cols T κ tv (j+1) (ys ++ [y]):=by
 refine ⟨by rw [List.length_append,h.1];rfl,fun l hl=>?_⟩
 rw [List.getD_eq_getElem?_getD]
 by_cases e:l=j
 ·subst e
  rw [List.getElem?_append_right (by rw [h.1];exact Nat.le_refl _),h.1,Nat.sub_self]
  exact hy
 ·rw [List.getElem?_append_left (by rw [h.1];omega),← List.getD_eq_getElem?_getD]
  exact h.2 l (by omega)
theorem fr_small {s:Str} (h:s=[48]∨s=[49]):FrD 1 1 s:=by
 rcases h with h | h
 ·subst h
  exact ⟨0,1,by decide,by decide +kernel,by decide +kernel,by decide +kernel⟩
 ·subst h
  exact ⟨1,1,by decide,by decide +kernel,by decide +kernel,by decide +kernel⟩
set_option maxHeartbeats 4000000 in
set_option maxRecDepth 100000 in
theorem sxduals_any {D m vars cols:Nat} {R:Nat→Nat→Int} {E:List (List Str)} {bs us:List Nat} {tv:List Bool} {T:Mx} {H:SxH} (κ:Str) (hκ:κ=[48]∨κ=[49]) (hE:SxE D m cols R E bs T) (hD:3*D+16≤4096) (Bs:Nat) (w:World)
  (hM:SxM w Bs H m (cols+m+1) vars cols E bs us tv) (hus:us.length=m) (hu:∀ i,i<m→us.getD i 0=cols+i) (htv:tv.length=m) (hk:cols+m+1≤1000) (hm:m≤500) (he:Env w) :
  Calls Tryz.prog 28 #[.pointer (some ⟨H.kt,0,none⟩),.string (B κ)] w fun e w'=>∃ (Y:Option Addr) (cy:Nat) (ys:List Str),e=.returned (.slice Y m cy)∧OwnS w' w.heap.size 29 Y m cy (strs ys)∧DuL D m cols T (rq κ) tv m ys∧Below w.heap.size w w':=by
 have c3:=hM.cell 3
 have hcapU:=hM.uni.cap
 have hcapV:=hM.tur.cap
 unfold maxLen at hcapU hcapV
 have HU:=Lib.hid (fun (h:0<m)=>hM.uniAt h hus)
 have HV:=Lib.hid (fun (h:0<m)=>hM.turAt h htv)
 have HP:=Lib.hid (hM.priAt (by omega) (hE.mat.row (by rw [hE.len];omega)).1)
 have HC1:=Lib.hid (hM.cell 1)
 have HC4:=Lib.hid (hM.cell 4)
 have hlt:=hM.lt
 have HERR:=Lib.hid hM.err
 have HE:=Lib.hid hE
 have HUS:=Lib.hid hu
 have HK:=Lib.hid hκ
 have HD:=Lib.hid hD
 clear hM hE hu hκ hus htv hD
 go_enter Tryz.func28,Tryz.ntmps28
 simp only [B_mk]
 go_wp2_with fail
 clear c3
 go_loopw [5,6,7,8,14] (fun o _ _ _ i wr=>∃ (j:Nat) (Y:Option Addr) (cy:Nat) (ys:List Str),j≤m∧i=.int .i64 j∧o=.slice Y j cy∧OwnS wr w.heap.size 29 Y j cy (strs ys)∧DuL D m cols T (rq κ) tv j ys∧Below w.heap.size w wr) (fun _ _ _ _ i _=>m - (intOf i).toNat)
 case atStart=>exact ⟨0,none,0,[],Nat.zero_le _,rfl,rfl,OwnS.nil _ _ _,⟨rfl,fun l hl=>absurd hl (Nat.not_lt_zero _)⟩,Below.refl _ _⟩
 case round =>
  obtain ⟨j,Y,cy,ys,hj,rfl,rfl,hown,hdu,hb⟩:=hrel
  have HDU:=Lib.hid hdu
  clear hdu
  by_cases hlj:j<m
  ·obtain ⟨gu,hgu,hgu2,huc⟩:=HU.out (by omega)
   obtain ⟨gv,hgv,hgv2,hvc⟩:=HV.out (by omega)
   obtain ⟨gp,hgp,hgp2,hcp1,hcp2,hpc⟩:=HP.out
   unfold maxLen at hcp2
   have d3:=(hb.cell (p:=⟨gu,j,none⟩) hgu2).trans (huc j hlj)
   rw [HUS.out j hlj] at d3
   have d4:=(hb.cell (p:=⟨gv,j,none⟩) hgv2).trans (hvc j hlj)
   have dp:=(hb.cell (p:=⟨gp,cols+j,none⟩) hgp2).trans (hpc (cols+j) (by omega))
   have d1o:=(hb.cell (p:=⟨H.kt,1,none⟩) hlt).trans HC1.out
   have d4o:=(hb.cell (p:=⟨H.kt,4,none⟩) hlt).trans HC4.out
   have d1:wr.cell? ⟨H.kt,1,none⟩=some (.slice (some ⟨gp,0,none⟩) (cols+m+1) H.cp):=by rw [← hgp];exact d1o
   have d4h:wr.cell? ⟨H.kt,4,none⟩=some (.slice (some ⟨gv,0,none⟩) m H.cv):=by rw [← hgv];exact d4o
   clear d1o d4o
   have hfp:=HE.out.mat.cell (i:=m) (c:=cols+j) (by rw [HE.out.len];omega) (by omega)
   have hlp:=frx_len hfp
   have hlk:κ.length≤1:=by rcases HK.out with h | h <;> rw [h] <;> simp
   have hs:=(fr_small HK.out).sub hfp (by have:=HD.out;omega) (by have:=HD.out;omega)
   have hz1:=sub_zero_of (fr_small HK.out) hfp (by have:=HD.out;omega) (by have:=HD.out;omega)
   have hv:=HE.out.val m (by omega) (cols+j) (by omega)
   have hD:=HD.out
   have HS1:=Lib.hid (fun (w:World) (hk:ErrAt w H.kt) (he:Env w)=>sxsub_any H.kt κ (cellM E m (cols+j)) w (by omega) (by omega) hs.1 hz1 hk he)
   have hdF:FrD (D+2) (D+1) (subQS κ (cellM E m (cols+j))):=hs.2.1.mono (by omega) (by omega)
   have hdq:rq (subQS κ (cellM E m (cols+j)))=rq κ - T m (cols+j):=by rw [hs.2.2,hv]
   generalize cellM E m (cols+j)=a at *
   generalize subQS κ a=d at *
   have hdl:=frx_len (hdF.mono (n':=D+2) (d':=D+2) (by omega) (by omega))
   have hs2:=(fr_small (.inl rfl):FrD 1 1 [48]).sub hdF (by omega) (by omega)
   have hz2:=sub_zero_of (fr_small (.inl rfl):FrD 1 1 [48]) hdF (by omega) (by omega)
   have HS2:=Lib.hid (fun (w:World) (hk:ErrAt w H.kt) (he:Env w)=>sxsub_any H.kt [48] d w (by simp) (by omega) hs2.1 hz2 hk he)
   have HY1:=Lib.hid (show tv.getD j false=false→DuP D m cols T (rq κ) tv j d from fun h=>⟨hdF.mono (by omega) (by omega),by rw [h,hdq];simp⟩)
   have HY2:=Lib.hid (show tv.getD j false=true→DuP D m cols T (rq κ) tv j (subQS [48] d) from fun h=>⟨hs2.2.1.mono (by omega) (by omega),by rw [h,hs2.2.2,hdq,rq_zero];simp;grind⟩)
   have HOC:=Lib.hid hown.cap
   have hul:cols+j<cols+m+1:=by omega
   generalize cols+j=cu at *
   have hucap:H.cu≤2 ^ 63 - 1:=hcapU.2
   have HGU:=Lib.hid hgu
   clear hs hz1 hv hdF hdq hdl hs2 hz2 hfp hlp hlk hpc huc hvc hgp hgv hgu hD
   generalize subQS [48] d=d2 at *
   have HEB:=Lib.hid (he.below hb)
   have HKB:=Lib.hid (HERR.out.below hb)
   rw [HGU.out]
   clear HGU
   cases htj:tv.getD j false with
   | false =>
    rw [htj] at d4
    have HY:=Lib.hid (HDU.out.snoc (HY1.out htj))
    clear htj HY1 HY2 HS2
    go_wp2_with fail
    refine (HS1.out wr HKB.out HEB.out).mono ?_
    rintro e w2 ⟨rfl,hb2⟩
    have hgvw:=Nat.lt_of_lt_of_le hgv2 hb.size
    have hltw:=Nat.lt_of_lt_of_le hlt hb.size
    have e4:=(hb2.cell (p:=⟨gv,j,none⟩) hgvw).trans d4
    have e4h:=(hb2.cell (p:=⟨H.kt,4,none⟩) hltw).trans d4h
    have hb3:=below_lift3 hb hb2
    have hown2:=hown.below hb2
    clear d1 d3 d4 d4h dp hown hgvw hltw hb2
    go_wp2_with (at_builtin;refine wp_app1 el_mrat rfl _ _ rfl w.heap.size _ _ _ _ _ (.string (B d)) rfl hown2 rfl rfl (by unfold maxLen;omega) (by omega) hb3.size ?_;intro A3 c3 w3 hown3 hb4)
    rw [strs_snoc_x] at hown3
    go_roundw
    case rel=>exact ⟨j+1,A3,c3,ys ++ [d],by omega,by go_num,rfl,hown3,HY.out,hb3.trans hb4⟩
    case measure=>simp [intOf];omega
   | true =>
    rw [htj] at d4
    have HY:=Lib.hid (HDU.out.snoc (HY2.out htj))
    clear htj HY1 HY2
    go_wp2_with fail
    refine (HS1.out wr HKB.out HEB.out).mono ?_
    rintro e w2 ⟨rfl,hb2⟩
    have hgvw:=Nat.lt_of_lt_of_le hgv2 hb.size
    have hltw:=Nat.lt_of_lt_of_le hlt hb.size
    have e4:=(hb2.cell (p:=⟨gv,j,none⟩) hgvw).trans d4
    have e4h:=(hb2.cell (p:=⟨H.kt,4,none⟩) hltw).trans d4h
    have hb3:=below_lift3 hb hb2
    have hown2:=hown.below hb2
    have HS2b:=Lib.hid (HS2.out w2 (HERR.out.below hb3) (he.below hb3))
    clear d1 d3 d4 d4h dp hown hgvw hltw hb2 HS2
    go_wp2_with fail
    refine HS2b.out.mono ?_
    rintro e w4 ⟨rfl,hb4⟩
    have hb5:=below_lift3 hb3 hb4
    have hown4:=hown2.below hb4
    clear hown2 hb3 e4 e4h
    go_wp2_with (at_builtin;refine wp_app1 el_mrat rfl _ _ rfl w.heap.size _ _ _ _ _ (.string (B d2)) rfl hown4 rfl rfl (by unfold maxLen;omega) (by omega) hb5.size ?_;intro A3 c3 w3 hown3 hb6)
    rw [strs_snoc_x] at hown3
    go_roundw
    case rel=>exact ⟨j+1,A3,c3,ys ++ [d2],by omega,by go_num,rfl,hown3,HY.out,hb5.trans hb6⟩
    case measure=>simp [intOf];omega
  ·have hjm:j=m:=by omega
   have hjx:¬ (j:Int)<(m:Int):=by omega
   have HX:=Lib.hid (show DuL D m cols T (rq κ) tv m ys by have:=HDU.out;rwa [hjm] at this)
   have HO:=Lib.hid (show OwnS wr w.heap.size 29 Y m cy (strs ys) by rw [← hjm];rw [hjm] at hown ⊢;exact hown)
   have HJ:=Lib.hid hjm
   clear hjm hown
   go_wp2_with fail
   go_ret
   first
    | exact ⟨Y,cy,ys,ret_slice HJ.out,HO.out,HX.out,hb⟩
    | exact ⟨Y,cy,ret_slice HJ.out,ys,HO.out,HX.out,hb⟩
    | exact ⟨Y,cy,ret_slice HJ.out,⟨ys,HO.out,HX.out⟩,hb⟩
def XvP (E:List (List Str)) (b:Nat→Nat) (rhs i x:Nat) (s:Str):Prop:=(∃ l,l<i∧b l=x∧s=cellM E l rhs)∨((∀ l,l<i→b l≠x)∧s=[48])
def TxL (n:Nat) (Q:Nat→Str→Prop) (xs:List Str):Prop:=xs.length=n∧∀ x,x<n→Q x (xs.getD x [])
theorem TxL.set {n j:Nat} {Q Q':Nat→Str→Prop} {xs:List Str} {s:Str} (h:TxL n Q xs) (h1:Q' j s) (h2:∀ x,x<n→x≠j→∀ u,Q x u→Q' x u):TxL n Q' (xs.set j s):=by
 refine ⟨by rw [List.length_set];exact h.1,fun x hx=>?_⟩
 rw [List.getD_eq_getElem?_getD,List.getElem?_set]
 by_cases e:j=x
 ·subst e
  rw [if_pos rfl,if_pos (by rw [h.1];exact hx)];exact h1
 ·rw [if_neg e,← List.getD_eq_getElem?_getD]
  exact h2 x hx (fun h=>e h.symm) _ (h.2 x hx)
theorem TxL.imp {n:Nat} {Q Q':Nat→Str→Prop} {xs:List Str} (h:TxL n Q xs) (h2:∀ x,x<n→∀ u,Q x u→Q' x u):TxL n Q' xs:=⟨h.1,fun x hx=>h2 x hx _ (h.2 x hx)⟩
theorem strs_rep (n:Nat):List.replicate n (Value.string (B []))=strs (List.replicate n []):=by unfold strs;simp
theorem XvP.new {E:List (List Str)} {b:Nat→Nat} {rhs i:Nat}:XvP E b rhs (i+1) (b i) (cellM E i rhs):=.inl ⟨i,Nat.lt_succ_self i,rfl,rfl⟩
theorem XvP.old {E:List (List Str)} {b:Nat→Nat} {rhs i x:Nat} {s:Str} (h:XvP E b rhs i x s) (hx:b i≠x):XvP E b rhs (i+1) x s:=by
 rcases h with ⟨l,h1,h2,h3⟩ | ⟨h1,h2⟩
 ·exact .inl ⟨l,by omega,h2,h3⟩
 ·refine .inr ⟨fun l hl=>?_,h2⟩
  by_cases e:l=i
  ·rw [e];exact hx
  ·exact h1 l (by omega)
set_option maxHeartbeats 4000000 in
set_option maxRecDepth 100000 in
theorem sxvalues_any {D m vars cols:Nat} {R:Nat→Nat→Int} {E:List (List Str)} {bs us:List Nat} {tv:List Bool} {T:Mx} {H:SxH} (hE:SxE D m cols R E bs T) (Bs:Nat) (w:World)
  (hM:SxM w Bs H m (cols+m+1) vars cols E bs us tv) (hk:cols+m+1≤1000) (hm:m≤500) (hv:vars≤1000) (he:Env w) :
  Calls Tryz.prog 30 #[.pointer (some ⟨H.kt,0,none⟩)] w fun e w'=>∃ (X:Option Addr) (cx:Nat) (xs:List Str),e=.returned (.slice X vars cx)∧OwnS w' w.heap.size 29 X vars cx (strs xs)∧TxL vars (XvP E (fun l=>bs.getD l 0) (cols+m) m) xs∧Below w.heap.size w w':=by
 have c6:=hM.cell 6
 have hlt:=hM.lt
 have HC0:=Lib.hid (hM.cell 0)
 have HC2:=Lib.hid (hM.cell 2)
 have HC6:=Lib.hid c6
 have hcapA:=hM.mat.outer.cap
 rw [List.length_take,hE.len,show min m (m+1)=m by omega] at hcapA
 have hcapB:=hM.bas.cap
 unfold maxLen at hcapA hcapB
 have HROW:=Lib.hid (fun (hm0:0<m)=>hM.rows hm0 (by omega) (fun i hi=>(hE.mat.row (by rw [hE.len];omega)).1))
 have HBAS:=Lib.hid (fun (hm0:0<m)=>hM.basAt hm0 hE.blen)
 clear hM hE
 go_enter Tryz.func30,Tryz.ntmps30
 simp only [B_mk]
 go_wp2_with (refine wp_mkn el_mrat rfl _ _ rfl w.heap.size _ .i64 .i64 _ _ vars rfl rfl rfl rfl (by omega) (by unfold maxLen;omega) (Nat.le_refl _) rfl ?_;intro X0 w1 hown0 hb1)
 clear c6
 have HST:=Lib.hid (show ∃ xs:List Str,OwnS w1 w.heap.size 29 X0 vars vars (strs xs)∧TxL vars (fun x s=>x<0→s=[48]) xs from ⟨List.replicate vars [],by rw [← strs_rep];exact hown0,by simp,fun x _ h=>absurd h (Nat.not_lt_zero _)⟩)
 clear hown0
 go_loopw [4,14] (fun _ i wr=>∃ (j:Nat) (xs:List Str),j≤vars∧i=.int .i64 j∧OwnS wr w.heap.size 29 X0 vars vars (strs xs)∧TxL vars (fun x s=>x<j→s=[48]) xs∧Below w.heap.size w wr) (fun _ i _=>vars - (intOf i).toNat)
 case atStart =>
  obtain ⟨xs,h1,h2⟩:=HST.out
  exact ⟨0,xs,Nat.zero_le _,rfl,h1,h2,hb1⟩
 case round =>
  clear hb1 HST
  obtain ⟨j,xs,hj,rfl,hown,htx,hb⟩:=hrel
  have HTX:=Lib.hid htx
  have HOW:=Lib.hid hown
  by_cases hlj:j<vars
  ·obtain ⟨gx,e,hgx1,hgx2,hgc,hgf⟩:=hown.at_ (by omega)
   subst e
   have d0:=hgc j hlj
   rw [strs_get _ _ (by rw [htx.1];exact hlj)] at d0
   have d1:=hgf j
   have HS:=Lib.hid (hown.stored j (.string (B [48])))
   have HN:=Lib.hid (show TxL vars (fun x s=>x<j+1→s=[48]) (xs.set j [48]) from htx.set (fun _=>rfl) (fun x _ hne u h hx=>h (by omega)))
   clear hgc hgf hown htx
   generalize xs.getD j []=u0 at *
   go_wp2_with fail
   go_roundw
   case rel=>exact ⟨j+1,xs.set j [48],by omega,by go_num,by rw [← strs_set];exact HS.out,HN.out,hb.setCell hgx1 _⟩
   case measure=>simp [intOf];omega
  ·have HZ:=Lib.hid (show TxL vars (XvP E (fun l=>bs.getD l 0) (cols+m) 0) xs from htx.imp fun x hx u h=>.inr ⟨fun l hl=>absurd hl (Nat.not_lt_zero _),h (by omega)⟩)
   have c2:=(hb.cell (p:=⟨H.kt,2,none⟩) hlt).trans HC2.out
   have hjx:¬ (j:Int)<(vars:Int):=by omega
   clear htx hown HTX
   go_wp2_with fail
   clear c2
   go_loopw [5,6,26] (fun _ _ i wr=>∃ (i':Nat) (xs:List Str),i'≤m∧i=.int .i64 i'∧OwnS wr w.heap.size 29 X0 vars vars (strs xs)∧TxL vars (XvP E (fun l=>bs.getD l 0) (cols+m) i') xs∧Below w.heap.size w wr) (fun _ _ i _=>m - (intOf i).toNat)
   case atStart=>exact ⟨0,xs,Nat.zero_le _,rfl,HOW.out,HZ.out,hb⟩
   case round =>
    clear hb HOW HZ hj hjx hlj
    obtain ⟨i,ys,hi,rfl,hown,htx,hb⟩:=hrel
    have HTX:=Lib.hid htx
    have HOW:=Lib.hid hown
    by_cases hlt2:i<m
    ·obtain ⟨gA,g,hgA,hgA2,hrow⟩:=HROW.out (by omega)
     obtain ⟨hgi,hgi2,hc1,hc2,hcell,htext⟩:=hrow i hlt2
     unfold maxLen at hc2
     obtain ⟨gb,hgb,hgb2,hbc⟩:=HBAS.out (by omega)
     have db:=(hb.cell (p:=⟨gb,i,none⟩) hgb2).trans (hbc i hlt2)
     have d6:=(hb.cell (p:=⟨H.kt,6,none⟩) hlt).trans HC6.out
     have HGB:=Lib.hid hgb
     rw [HGB.out]
     by_cases hbv:bs.getD i 0<vars
     ·obtain ⟨gx,e,hgx1,hgx2,hgc,hgf⟩:=hown.at_ (by omega)
      subst e
      have hbd:=below_drew hb
      have d0:=(hbd.cell (p:=⟨H.kt,0,none⟩) hlt).trans HC0.out
      have d0:wr.drew.cell? ⟨H.kt,0,none⟩=some (.slice (some ⟨gA,0,none⟩) m H.c):=by rw [← hgA];exact d0
      have d3:=(hbd.cell (p:=⟨gA,i,none⟩) hgA2).trans hcell
      have d4:=(hbd.cell (p:=⟨g i,cols+m,none⟩) hgi2).trans (htext (cols+m) (by omega))
      have d7:wr.drew.cell? ⟨gx,bs.getD i 0,none⟩=some (.string (B (ys.getD (bs.getD i 0) []))):=by
       have:=hgc (bs.getD i 0) hbv
       rw [strs_get _ _ (by rw [htx.1];exact hbv)] at this
       exact this
      have d8:wr.drew.frozen? ⟨gx,bs.getD i 0,none⟩=false:=hgf _
      have HS:=Lib.hid ((hown.below (below_drew (Below.refl _ _))).stored (bs.getD i 0) (.string (B (cellM E i (cols+m)))))
      have HN:=Lib.hid (show TxL vars (XvP E (fun l=>bs.getD l 0) (cols+m) (i+1)) (ys.set (bs.getD i 0) (cellM E i (cols+m))) from htx.set XvP.new (fun x _ hne u h=>h.old (fun e=>hne e.symm)))
      have hbvI:((bs.getD i 0:Nat):Int)<(vars:Int):=by omega
      have hwrap:=wrap_nat (n:=cols+m) (by omega)
      clear hgc hgf hrow hbc htext hcell hgi hgb hgA
      generalize g i=gi at *
      generalize H.hC i=hci at *
      generalize ys.getD (bs.getD i 0) []=u0 at *
      generalize cellM E i (cols+m)=a at *
      generalize bs.getD i 0=bi at *
      generalize cols+m=rr at *
      have HHB:=Lib.hid (show ∀ wx,wx=wr.drew→OwnS (wx.setCell ⟨gx,bi,none⟩ (.string (B a))) w.heap.size 29 (some ⟨gx,0,none⟩) vars vars (strs (ys.set bi a)) from fun wx h=>by rw [h,← strs_set];exact HS.out)
      go_wp2_with fail
      go_region
      all_goals
       go_wp2_with fail
       go_roundw
       case rel=>exact ⟨i+1,_,by omega,by go_num,(HHB.out _ rfl).keep (fun _ _=>rfl),HN.out,hbd.setCell hgx1 _⟩
       case measure=>simp [intOf];omega
     ·have hbvI:¬ ((bs.getD i 0:Nat):Int)<(vars:Int):=by omega
      have HN:=Lib.hid (show TxL vars (XvP E (fun l=>bs.getD l 0) (cols+m) (i+1)) ys from htx.imp (fun x hx u h=>h.old (fun e=>hbv (by have e:bs.getD i 0=x:=e;omega))))
      clear hrow hbc htext hcell hgi hgb hgA hown htx hbv
      generalize bs.getD i 0=bi at *
      go_wp2_with fail
      go_roundw
      case rel=>exact ⟨i+1,ys,by omega,by go_num,HOW.out,HN.out,hb⟩
      case measure=>simp [intOf];omega
    ·have him:i=m:=by omega
     have hix:¬ (i:Int)<(m:Int):=by omega
     have HX:=Lib.hid (show TxL vars (XvP E (fun l=>bs.getD l 0) (cols+m) m) ys by rw [him] at htx;exact htx)
     clear him htx hown HTX
     go_wp2_with fail
     go_ret
     first
      | exact ⟨X0,vars,ys,rfl,HOW.out,HX.out,hb⟩
      | exact ⟨X0,vars,rfl,ys,HOW.out,HX.out,hb⟩
      | exact ⟨X0,vars,rfl,⟨ys,HOW.out,HX.out⟩,hb⟩
def RyP (E:List (List Str)) (b:Nat→Nat) (c i x:Nat) (s:Str):Prop:=(∃ l,l<i∧b l=x∧s=subQS [48] (cellM E l c))∨((∀ l,l<i→b l≠x)∧(x=c→s=[49])∧(x≠c→s=[48]))
theorem RyP.new {E:List (List Str)} {b:Nat→Nat} {c i:Nat}:RyP E b c (i+1) (b i) (subQS [48] (cellM E i c)):=.inl ⟨i,Nat.lt_succ_self i,rfl,rfl⟩
theorem RyP.old {E:List (List Str)} {b:Nat→Nat} {c i x:Nat} {s:Str} (h:RyP E b c i x s) (hx:b i≠x):RyP E b c (i+1) x s:=by
 rcases h with ⟨l,h1,h2,h3⟩ | ⟨h1,h2⟩
 ·exact .inl ⟨l,by omega,h2,h3⟩
 ·refine .inr ⟨fun l hl=>?_,h2⟩
  by_cases e:l=i
  ·rw [e];exact hx
  ·exact h1 l (by omega)
set_option maxHeartbeats 4000000 in
set_option maxRecDepth 100000 in
theorem sxray_any {D m vars cols c:Nat} {R:Nat→Nat→Int} {E:List (List Str)} {bs us:List Nat} {tv:List Bool} {T:Mx} {H:SxH} (hE:SxE D m cols R E bs T) (hD:3*D+16≤4096) (hc:c<cols) (Bs:Nat) (w:World)
  (hM:SxM w Bs H m (cols+m+1) vars cols E bs us tv) (hk:cols+m+1≤1000) (hm:m≤500) (hv:vars≤1000) (he:Env w) :
  Calls Tryz.prog 31 #[.pointer (some ⟨H.kt,0,none⟩),.int .i64 c] w fun e w'=>∃ (X:Option Addr) (cx:Nat) (xs:List Str),e=.returned (.slice X vars cx)∧OwnS w' w.heap.size 29 X vars cx (strs xs)∧TxL vars (RyP E (fun l=>bs.getD l 0) c m) xs∧Below w.heap.size w w':=by
 have c6:=hM.cell 6
 have hlt:=hM.lt
 have HC0:=Lib.hid (hM.cell 0)
 have HC2:=Lib.hid (hM.cell 2)
 have HC6:=Lib.hid c6
 have hcapA:=hM.mat.outer.cap
 rw [List.length_take,hE.len,show min m (m+1)=m by omega] at hcapA
 have hcapB:=hM.bas.cap
 unfold maxLen at hcapA hcapB
 have HROW:=Lib.hid (fun (hm0:0<m)=>hM.rows hm0 (by omega) (fun i hi=>(hE.mat.row (by rw [hE.len];omega)).1))
 have HBAS:=Lib.hid (fun (hm0:0<m)=>hM.basAt hm0 hE.blen)
 have HERR:=Lib.hid hM.err
 have HE:=Lib.hid hE
 have HD:=Lib.hid hD
 clear hM hE hD
 go_enter Tryz.func31,Tryz.ntmps31
 simp only [B_mk]
 go_wp2_with (refine wp_mkn el_mrat rfl _ _ rfl w.heap.size _ .i64 .i64 _ _ vars rfl rfl rfl rfl (by omega) (by unfold maxLen;omega) (Nat.le_refl _) rfl ?_;intro X0 w1 hown0 hb1)
 clear c6
 have HST:=Lib.hid (show ∃ xs:List Str,OwnS w1 w.heap.size 29 X0 vars vars (strs xs)∧TxL vars (fun x s=>x<0→s=[48]) xs from ⟨List.replicate vars [],by rw [← strs_rep];exact hown0,by simp,fun x _ h=>absurd h (Nat.not_lt_zero _)⟩)
 clear hown0
 go_loopw [6,16] (fun _ i wr=>∃ (j:Nat) (xs:List Str),j≤vars∧i=.int .i64 j∧OwnS wr w.heap.size 29 X0 vars vars (strs xs)∧TxL vars (fun x s=>x<j→s=[48]) xs∧Below w.heap.size w wr) (fun _ i _=>vars - (intOf i).toNat)
 case atStart =>
  obtain ⟨xs,h1,h2⟩:=HST.out
  exact ⟨0,xs,Nat.zero_le _,rfl,h1,h2,hb1⟩
 case round =>
  clear hb1 HST
  obtain ⟨j,xs,hj,rfl,hown,htx,hb⟩:=hrel
  have HTX:=Lib.hid htx
  have HOW:=Lib.hid hown
  by_cases hlj:j<vars
  ·obtain ⟨gx,e,hgx1,hgx2,hgc,hgf⟩:=hown.at_ (by omega)
   subst e
   have d0:=hgc j hlj
   rw [strs_get _ _ (by rw [htx.1];exact hlj)] at d0
   have d1:=hgf j
   have HS:=Lib.hid (hown.stored j (.string (B [48])))
   have HN:=Lib.hid (show TxL vars (fun x s=>x<j+1→s=[48]) (xs.set j [48]) from htx.set (fun _=>rfl) (fun x _ hne u h hx=>h (by omega)))
   clear hgc hgf hown htx
   generalize xs.getD j []=u0 at *
   go_wp2_with fail
   go_roundw
   case rel=>exact ⟨j+1,xs.set j [48],by omega,by go_num,by rw [← strs_set];exact HS.out,HN.out,hb.setCell hgx1 _⟩
   case measure=>simp [intOf];omega
  ·have c2:=(hb.cell (p:=⟨H.kt,2,none⟩) hlt).trans HC2.out
   have c6:=(hb.cell (p:=⟨H.kt,6,none⟩) hlt).trans HC6.out
   have hjx:¬ (j:Int)<(vars:Int):=by omega
   have hjv:j=vars:=by omega
   by_cases hcv:c<vars
   ·obtain ⟨gz,e,hgz1,hgz2,hgc,hgf⟩:=hown.at_ (by omega)
    subst e
    have d7:=hgc c hcv
    rw [strs_get _ _ (by rw [htx.1];exact hcv)] at d7
    have d8:=hgf c
    have HZ:=Lib.hid (show TxL vars (RyP E (fun l=>bs.getD l 0) c 0) (xs.set c [49]) from htx.set (.inr ⟨fun l hl=>absurd hl (Nat.not_lt_zero _),fun _=>rfl,fun h=>absurd rfl h⟩) (fun x hx hne u h=>.inr ⟨fun l hl=>absurd hl (Nat.not_lt_zero _),fun h=>absurd h hne,fun _=>h (by omega)⟩))
    have HOZ:=Lib.hid (hown.stored c (.string (B [49])))
    rw [strs_set] at HOZ
    have hbz:=hb.setCell hgz1 (.string (B [49])) (p:=⟨gz,c,none⟩)
    have hcI:(c:Int)<(vars:Int):=by omega
    have c2b:(wr.setCell ⟨gz,c,none⟩ (.string (B [49]))).cell? ⟨H.kt,2,none⟩=some (.slice H.Bb m H.cb):=(hbz.cell (p:=⟨H.kt,2,none⟩) hlt).trans HC2.out
    generalize hZS:xs.set c [49]=ZS at *
    clear hgc hgf htx hown HTX HOW hjv c2 hZS
    generalize xs.getD c []=u0 at *
    go_wp2_with fail
    clear d7 d8 c6 c2b
    go_loopw [7,8,37] (fun _ _ i wr=>∃ (i':Nat) (xs:List Str),i'≤m∧i=.int .i64 i'∧OwnS wr w.heap.size 29 (some ⟨gz,0,none⟩) vars vars (strs xs)∧TxL vars (RyP E (fun l=>bs.getD l 0) c i') xs∧Below w.heap.size w wr) (fun _ _ i _=>m - (intOf i).toNat)
    case atStart=>exact ⟨0,ZS,Nat.zero_le _,rfl,HOZ.out,HZ.out,hbz⟩
    case round =>
     clear hbz HOZ HZ
     obtain ⟨i,ys,hi,rfl,hown,htx,hb⟩:=hrel
     have HTX:=Lib.hid htx
     have HOW:=Lib.hid hown
     by_cases hlt2:i<m
     ·obtain ⟨gA,g,hgA,hgA2,hrow⟩:=HROW.out (by omega)
      obtain ⟨hgi,hgi2,hc1,hc2,hcell,htext⟩:=hrow i hlt2
      unfold maxLen at hc2
      obtain ⟨gb,hgb,hgb2,hbc⟩:=HBAS.out (by omega)
      have db:=(hb.cell (p:=⟨gb,i,none⟩) hgb2).trans (hbc i hlt2)
      have d6:=(hb.cell (p:=⟨H.kt,6,none⟩) hlt).trans HC6.out
      have HGB:=Lib.hid hgb
      rw [HGB.out]
      by_cases hbv:bs.getD i 0<vars
      ·obtain ⟨gx,e,hgx1,hgx2,hgc,hgf⟩:=hown.at_ (by omega)
       obtain rfl:gz=gx:=by injection e with e;injection e
       have d0o:=(hb.cell (p:=⟨H.kt,0,none⟩) hlt).trans HC0.out
       have d0:wr.cell? ⟨H.kt,0,none⟩=some (.slice (some ⟨gA,0,none⟩) m H.c):=by rw [← hgA];exact d0o
       have d3:=(hb.cell (p:=⟨gA,i,none⟩) hgA2).trans hcell
       have d4:=(hb.cell (p:=⟨g i,c,none⟩) hgi2).trans (htext c (by omega))
       have d7:wr.cell? ⟨gz,bs.getD i 0,none⟩=some (.string (B (ys.getD (bs.getD i 0) []))):=by
        have:=hgc (bs.getD i 0) hbv
        rw [strs_get _ _ (by rw [htx.1];exact hbv)] at this
        exact this
       have d8:wr.frozen? ⟨gz,bs.getD i 0,none⟩=false:=hgf _
       have hff:=HE.out.mat.cell (i:=i) (c:=c) (by rw [HE.out.len];omega) (by omega)
       have hlf:=frx_len hff
       have hDD:=HD.out
       have hs:=(fr_small (.inl rfl):FrD 1 1 [48]).sub hff (by omega) (by omega)
       have hz:=sub_zero_of (fr_small (.inl rfl):FrD 1 1 [48]) hff (by omega) (by omega)
       have HSB:=Lib.hid (sxsub_any H.kt [48] (cellM E i c) wr (by simp) (by omega) hs.1 hz (HERR.out.below hb) (he.below hb))
       have HS:=Lib.hid (fun (w2:World) (h:Below wr.heap.size wr w2)=>(hown.below h).stored (bs.getD i 0) (.string (B (subQS [48] (cellM E i c)))))
       have HN:=Lib.hid (show TxL vars (RyP E (fun l=>bs.getD l 0) c (i+1)) (ys.set (bs.getD i 0) (subQS [48] (cellM E i c))) from htx.set RyP.new (fun x _ hne u h=>h.old (fun e=>hne e.symm)))
       have hbvI:((bs.getD i 0:Nat):Int)<(vars:Int):=by omega
       clear hgc hgf hrow hbc htext hcell hgi hgb hgA hff hlf hs hz hDD d0o
       generalize g i=gi at *
       generalize H.hC i=hci at *
       generalize ys.getD (bs.getD i 0) []=u0 at *
       generalize subQS [48] (cellM E i c)=sa at *
       generalize cellM E i c=a at *
       generalize bs.getD i 0=bi at *
       go_wp2_with fail
       refine HSB.out.mono ?_
       rintro e w2 ⟨rfl,hb2⟩
       have e7:=(hb2.cell (p:=⟨gz,bi,none⟩) hgx2).trans d7
       have e8:=(hb2.frozen (p:=⟨gz,bi,none⟩) hgx2).trans d8
       have hb3:=below_lift3 hb hb2
       have hown2:=HS.out w2 hb2
       rw [strs_set] at hown2
       clear d0 d3 d4 d7 d8 db d6 HS HSB hown
       go_wp2_with fail
       go_roundw
       case rel=>exact ⟨i+1,_,by omega,by go_num,hown2,HN.out,hb3.setCell hgx1 _⟩
       case measure=>simp [intOf];omega
      ·have hbvI:¬ ((bs.getD i 0:Nat):Int)<(vars:Int):=by omega
       have HN:=Lib.hid (show TxL vars (RyP E (fun l=>bs.getD l 0) c (i+1)) ys from htx.imp (fun x hx u h=>h.old (fun e=>hbv (by have e:bs.getD i 0=x:=e;omega))))
       clear hrow hbc htext hcell hgi hgb hgA hown htx hbv
       generalize bs.getD i 0=bi at *
       go_wp2_with fail
       go_roundw
       case rel=>exact ⟨i+1,ys,by omega,by go_num,HOW.out,HN.out,hb⟩
       case measure=>simp [intOf];omega
     ·have him:i=m:=by omega
      have hix:¬ (i:Int)<(m:Int):=by omega
      have HX:=Lib.hid (show TxL vars (RyP E (fun l=>bs.getD l 0) c m) ys by rw [him] at htx;exact htx)
      clear him htx hown HTX
      go_wp2_with fail
      go_ret
      first
       | exact ⟨(some ⟨gz,0,none⟩),vars,ys,rfl,HOW.out,HX.out,hb⟩
       | exact ⟨(some ⟨gz,0,none⟩),vars,rfl,ys,HOW.out,HX.out,hb⟩
       | exact ⟨(some ⟨gz,0,none⟩),vars,rfl,⟨ys,HOW.out,HX.out⟩,hb⟩
   ·have HZ:=Lib.hid (show TxL vars (RyP E (fun l=>bs.getD l 0) c 0) xs from htx.imp fun x hx u h=>.inr ⟨fun l hl=>absurd hl (Nat.not_lt_zero _),fun h=>absurd h (by omega),fun _=>h (by omega)⟩)
    have HOZ:=Lib.hid hown
    have hbz:=hb
    have hcI:¬ (c:Int)<(vars:Int):=by omega
    generalize hZS:xs=ZS at *
    clear htx hown HTX HOW hjv hZS
    go_wp2_with fail
    clear c6 c2
    go_loopw [7,8,37] (fun _ _ i wr=>∃ (i':Nat) (xs:List Str),i'≤m∧i=.int .i64 i'∧OwnS wr w.heap.size 29 X0 vars vars (strs xs)∧TxL vars (RyP E (fun l=>bs.getD l 0) c i') xs∧Below w.heap.size w wr) (fun _ _ i _=>m - (intOf i).toNat)
    case atStart=>exact ⟨0,ZS,Nat.zero_le _,rfl,HOZ.out,HZ.out,hbz⟩
    case round =>
     clear hbz HOZ HZ
     obtain ⟨i,ys,hi,rfl,hown,htx,hb⟩:=hrel
     have HTX:=Lib.hid htx
     have HOW:=Lib.hid hown
     by_cases hlt2:i<m
     ·obtain ⟨gA,g,hgA,hgA2,hrow⟩:=HROW.out (by omega)
      obtain ⟨hgi,hgi2,hc1,hc2,hcell,htext⟩:=hrow i hlt2
      unfold maxLen at hc2
      obtain ⟨gb,hgb,hgb2,hbc⟩:=HBAS.out (by omega)
      have db:=(hb.cell (p:=⟨gb,i,none⟩) hgb2).trans (hbc i hlt2)
      have d6:=(hb.cell (p:=⟨H.kt,6,none⟩) hlt).trans HC6.out
      have HGB:=Lib.hid hgb
      rw [HGB.out]
      by_cases hbv:bs.getD i 0<vars
      ·obtain ⟨gx,e,hgx1,hgx2,hgc,hgf⟩:=hown.at_ (by omega)
       subst e
       have d0o:=(hb.cell (p:=⟨H.kt,0,none⟩) hlt).trans HC0.out
       have d0:wr.cell? ⟨H.kt,0,none⟩=some (.slice (some ⟨gA,0,none⟩) m H.c):=by rw [← hgA];exact d0o
       have d3:=(hb.cell (p:=⟨gA,i,none⟩) hgA2).trans hcell
       have d4:=(hb.cell (p:=⟨g i,c,none⟩) hgi2).trans (htext c (by omega))
       have d7:wr.cell? ⟨gx,bs.getD i 0,none⟩=some (.string (B (ys.getD (bs.getD i 0) []))):=by
        have:=hgc (bs.getD i 0) hbv
        rw [strs_get _ _ (by rw [htx.1];exact hbv)] at this
        exact this
       have d8:wr.frozen? ⟨gx,bs.getD i 0,none⟩=false:=hgf _
       have hff:=HE.out.mat.cell (i:=i) (c:=c) (by rw [HE.out.len];omega) (by omega)
       have hlf:=frx_len hff
       have hDD:=HD.out
       have hs:=(fr_small (.inl rfl):FrD 1 1 [48]).sub hff (by omega) (by omega)
       have hz:=sub_zero_of (fr_small (.inl rfl):FrD 1 1 [48]) hff (by omega) (by omega)
       have HSB:=Lib.hid (sxsub_any H.kt [48] (cellM E i c) wr (by simp) (by omega) hs.1 hz (HERR.out.below hb) (he.below hb))
       have HS:=Lib.hid (fun (w2:World) (h:Below wr.heap.size wr w2)=>(hown.below h).stored (bs.getD i 0) (.string (B (subQS [48] (cellM E i c)))))
       have HN:=Lib.hid (show TxL vars (RyP E (fun l=>bs.getD l 0) c (i+1)) (ys.set (bs.getD i 0) (subQS [48] (cellM E i c))) from htx.set RyP.new (fun x _ hne u h=>h.old (fun e=>hne e.symm)))
       have hbvI:((bs.getD i 0:Nat):Int)<(vars:Int):=by omega
       clear hgc hgf hrow hbc htext hcell hgi hgb hgA hff hlf hs hz hDD d0o
       generalize g i=gi at *
       generalize H.hC i=hci at *
       generalize ys.getD (bs.getD i 0) []=u0 at *
       generalize subQS [48] (cellM E i c)=sa at *
       generalize cellM E i c=a at *
       generalize bs.getD i 0=bi at *
       go_wp2_with fail
       refine HSB.out.mono ?_
       rintro e w2 ⟨rfl,hb2⟩
       have e7:=(hb2.cell (p:=⟨gx,bi,none⟩) hgx2).trans d7
       have e8:=(hb2.frozen (p:=⟨gx,bi,none⟩) hgx2).trans d8
       have hb3:=below_lift3 hb hb2
       have hown2:=HS.out w2 hb2
       rw [strs_set] at hown2
       clear d0 d3 d4 d7 d8 db d6 HS HSB hown
       go_wp2_with fail
       go_roundw
       case rel=>exact ⟨i+1,_,by omega,by go_num,hown2,HN.out,hb3.setCell hgx1 _⟩
       case measure=>simp [intOf];omega
      ·have hbvI:¬ ((bs.getD i 0:Nat):Int)<(vars:Int):=by omega
       have HN:=Lib.hid (show TxL vars (RyP E (fun l=>bs.getD l 0) c (i+1)) ys from htx.imp (fun x hx u h=>h.old (fun e=>hbv (by have e:bs.getD i 0=x:=e;omega))))
       clear hrow hbc htext hcell hgi hgb hgA hown htx hbv
       generalize bs.getD i 0=bi at *
       go_wp2_with fail
       go_roundw
       case rel=>exact ⟨i+1,ys,by omega,by go_num,HOW.out,HN.out,hb⟩
       case measure=>simp [intOf];omega
     ·have him:i=m:=by omega
      have hix:¬ (i:Int)<(m:Int):=by omega
      have HX:=Lib.hid (show TxL vars (RyP E (fun l=>bs.getD l 0) c m) ys by rw [him] at htx;exact htx)
      clear him htx hown HTX
      go_wp2_with fail
      go_ret
      first
       | exact ⟨X0,vars,ys,rfl,HOW.out,HX.out,hb⟩
       | exact ⟨X0,vars,rfl,ys,HOW.out,HX.out,hb⟩
       | exact ⟨X0,vars,rfl,⟨ys,HOW.out,HX.out⟩,hb⟩
theorem own_made (w:World) (Bs n:Nat) (hn:n≤1000000) (hs:Bs≤w.heap.size):OwnS (w.alloc (.cells (madeCells #[.string (B [])] n) 29)) Bs 29 (some ⟨w.heap.size,0,none⟩) n n (strs (List.replicate n [])):=by
 have hl:(madeCells #[.string (B [])] n).size=n:=by rw [← Array.length_toList,toList_madeCells_one,List.length_replicate]
 refine ⟨by unfold strs;simp,.inr ⟨w.heap.size,n,_,rfl,hs,row_new,Nat.le_refl _,by unfold maxLen;omega,by rw [hl,Nat.mul_one],?_⟩⟩
 rw [toList_madeCells_one,Nat.mul_one,strs_rep]
 exact List.take_of_length_le (by unfold strs;simp)
def CsP (cost:List Int) (unit:Str) (own:Bool) (vars cols x:Nat) (s:Str):Prop:=(x<vars→s=if own then decI (cost.getD x 0) else [48])∧(vars≤x→x<cols→s=[48])∧(cols≤x→s=unit)
set_option maxHeartbeats 4000000 in
set_option maxRecDepth 100000 in
theorem sxcosts_any {m vars cols kt c:Nat} {A0:Option Addr} (cost:List Int) (rs:List RowV) (A:Option Addr) (ca:Nat) (R:Option Addr) (cr:Nat) (unit:Str) (own:Bool) (w:World)
  (hlt:kt<w.heap.size) (h0:w.cell? ⟨kt,0,none⟩=some (.slice A0 m c)) (h5:w.cell? ⟨kt,5,none⟩=some (.int .i64 cols)) (h6:w.cell? ⟨kt,6,none⟩=some (.int .i64 vars)) (hc:m≤c)
  (hp:LinAt w cost rs A ca R cr) (hn:cost.length=vars) (hvc:vars≤cols) (hk:cols+m+1≤1000) (hm:m≤500) (he:Env w) :
  Calls Tryz.prog 25 #[.pointer (some ⟨kt,0,none⟩),linV A cost.length ca R rs.length cr,.string (B unit),.bool own] w fun e w'=>∃ (X:Option Addr) (cx:Nat) (cs:List Str),e=.returned (.slice X (cols+m) cx)∧OwnS w' w.heap.size 29 X (cols+m) cx (strs cs)∧TxL (cols+m) (CsP cost unit own vars cols) cs∧Below w.heap.size w w':=by
 have hla:=hp.la
 unfold maxLen at hla
 have b0:=new_below w (linO A cost.length ca R rs.length cr)
 have bd:=below_drew b0
 have k5:=(bd.cell (p:=⟨kt,5,none⟩) hlt).trans h5
 have k0:=(bd.cell (p:=⟨kt,0,none⟩) hlt).trans h0
 have HC5:=Lib.hid h5
 have HC6:=Lib.hid h6
 have HFIT:=Lib.hid hp.fit
 have HCC:=Lib.hid hp.cells
 have HN:=Lib.hid hn
 have HQ:=Lib.hid (fun (z:Int) (hz:fits z) (w':World) (hb:Below w.heap.size w w')=>qof_any z w' hz (he.below hb).1)
 clear hp h0 h5 h6 hn he
 have hrm:cols+m≤1000:=by omega
 have mk:∀ w:World,(Instr.makeSlice 28 (.int .i64 ((cols:Int)+(m:Int))) (.int .i64 ((cols:Int)+(m:Int)))).run Tryz.prog w=.ok (.slice (some ⟨w.heap.size,0,none⟩) (cols+m) (cols+m)) (w.alloc (.cells (madeCells #[.string (B [])] (cols+m)) 29)):=fun w=>by
  have:=run_make_row' (P:=Tryz.prog) 28 29 (.string (B [])) 16 Tryz.underlying28 mrat_info rfl .i64 .i64 (cols+m) (by omega) (by omega) w
  rw [Int.natCast_add] at this
  exact this
 go_enter Tryz.func25,Tryz.ntmps25
 simp only [B_mk]
 go_upto_region 1 with fail
 go_cut [9] (fun p wx=>∃ X cx,p=.slice X (cols+m) cx∧(∃ cs:List Str,cs.length=cols+m∧OwnS wx (w.heap.size+1) 29 X (cols+m) cx (strs cs))∧Below (w.alloc (linO A cost.length ca R rs.length cr)).heap.size (w.alloc (linO A cost.length ca R rs.length cr)) wx)
 case first =>
  go_region
  all_goals
   go_wp2_with fail
   go_meet
   refine ⟨_,_,rfl,⟨List.replicate (cols+m) [],by simp,?_⟩,?_⟩
   ·have hz2:w.heap.size+1≤(w.alloc (linO A cost.length ca R rs.length cr)).heap.size:=by simp
    have hs1:(w.alloc (linO A cost.length ca R rs.length cr)).heap.size=w.heap.size+1:=by simp
    have om:=own_made (w.alloc (linO A cost.length ca R rs.length cr)) (w.heap.size+1) (cols+m) (by omega) hz2
    rw [hs1] at om
    exact om.keep (fun _ _=>rfl)
   ·first
     | exact ((Below.refl _ _).alloc (Nat.le_refl _) _).drew
     | exact (Below.refl _ _).drew.alloc (Nat.le_refl _) _
 case rest =>
  obtain ⟨X,cx,rfl,⟨cs,hcl,hown⟩,hbx⟩:=hcut
  clear k5 k0 bd mk
  have HST:=Lib.hid (show TxL (cols+m) (fun x s=>x<0→CsP cost unit own vars cols x s) cs from ⟨hcl,fun x _ h=>absurd h (Nat.not_lt_zero _)⟩)
  have HOW:=Lib.hid hown
  have HBX:=Lib.hid hbx
  have hcx:=hown.cap
  unfold maxLen at hcx
  clear hcl hown hbx
  go_wp2_with fail
  go_loopw [10,24] (fun _ i wr=>∃ (j:Nat) (xs:List Str),j≤cols+m∧i=.int .i64 j∧OwnS wr (w.heap.size+1) 29 X (cols+m) cx (strs xs)∧TxL (cols+m) (fun x s=>x<j→CsP cost unit own vars cols x s) xs∧Below (w.alloc (linO A cost.length ca R rs.length cr)).heap.size (w.alloc (linO A cost.length ca R rs.length cr)) wr) (fun _ i _=>cols+m - (intOf i).toNat)
  case atStart=>exact ⟨0,cs,Nat.zero_le _,rfl,HOW.out,HST.out,HBX.out⟩
  case round =>
   clear HST HOW HBX
   obtain ⟨j,xs,hj,rfl,hown,htx,hb⟩:=hrel
   have HTX:=Lib.hid htx
   have hbw:=b0.trans (hb.mono b0.size)
   by_cases hlj:j<cols+m
   ·obtain ⟨gx,e,hgx1,hgx2,hgc,hgf⟩:=hown.at_ (by omega)
    subst e
    have d0:=hgc j hlj
    rw [strs_get _ _ (by rw [htx.1];exact hlj)] at d0
    have d1:=hgf j
    have d5:=(hbw.cell (p:=⟨kt,5,none⟩) hlt).trans HC5.out
    have d6:=(hbw.cell (p:=⟨kt,6,none⟩) hlt).trans HC6.out
    have hne:gx≠kt:=by omega
    have d5s:(wr.setCell ⟨gx,j,none⟩ (.string (B [48]))).cell? ⟨kt,5,none⟩=some (.int .i64 cols):=by rw [cell_at (Below.heap_setCell _ _ _ _ (fun e=>hne e.symm)) 5];exact d5
    have d6s:(wr.setCell ⟨gx,j,none⟩ (.string (B [48]))).cell? ⟨kt,6,none⟩=some (.int .i64 vars):=by rw [cell_at (Below.heap_setCell _ _ _ _ (fun e=>hne e.symm)) 6];exact d6
    have HST:=Lib.hid (fun (s:Str)=>hown.stored j (.string (B s)))
    have hgk:kt<gx:=by omega
    have hgb:w.heap.size<gx:=by omega
    have hsz:(w.alloc (linO A cost.length ca R rs.length cr)).heap.size≤gx:=by simp;omega
    generalize hu0:xs.getD j []=u0 at *
    have hnx:∀ s,CsP cost unit own vars cols j s→TxL (cols+m) (fun x s=>x<j+1→CsP cost unit own vars cols x s) (xs.set j s):=fun s h=>htx.set (fun _=>h) (fun x _ hne u h hx=>h (by omega))
    have HNX:=Lib.hid hnx
    clear htx hnx hgc hown hu0 hne
    have bh:=hb.setCell hsz (.string (B [48])) (p:=⟨gx,j,none⟩)
    obtain ⟨f0,f1,f2⟩:=lin_cells bh
    have hfz:(wr.setCell ⟨gx,j,none⟩ (.string (B [48]))).frozen? ⟨gx,j,none⟩=false:=by rw [World.frozen?_setCell];exact d1
    have hz0:(wr.setCell ⟨gx,j,none⟩ (.string (B [48]))).cell? ⟨gx,j,none⟩=some (.string (B [48])):=World.cell?_setCell_same wr _ _ d0
    have hb1:=b0.trans (bh.mono b0.size)
    have hown1:=HST.out [48]
    have hgx3:gx<(wr.setCell ⟨gx,j,none⟩ (.string (B [48]))).heap.size:=by rw [World.size_setCell];exact hgx2
    by_cases hjv:j<vars
    ·have hjvI:(j:Int)<(vars:Int):=by omega
     have hjc:¬ (cols:Int)≤(j:Int):=by omega
     cases own with
     | true =>
      have hjcl:j<cost.length:=by rw [HN.out];exact hjv
      obtain ⟨bc,oc,hA,dc⟩:=ints_at (HCC.out.below hb1) hjcl
      subst hA
      have hcj:cost.getD j 0=cost[j]:=by rw [List.getD_eq_getElem?_getD,List.getElem?_eq_getElem hjcl];rfl
      have hft:fits cost[j]:=HFIT.out _ (List.getElem_mem _)
      have HOF:=Lib.hid (HQ.out _ hft _ hb1)
      have HN2:=Lib.hid (HNX.out (decI cost[j]) ⟨fun _=>by rw [hcj];rfl,fun h=>absurd h (by omega),fun h=>absurd h (by omega)⟩)
      clear hcj hft hjv
      generalize cost[j]=cj at *
      go_wp2_with fail
      refine HOF.out.mono ?_
      rintro e w2 ⟨rfl,hb2⟩
      have e0:=(hb2.cell (p:=⟨gx,j,none⟩) hgx3).trans hz0
      have e1:=(hb2.frozen (p:=⟨gx,j,none⟩) hgx3).trans hfz
      have hown2:=(hown1.below hb2).stored j (.string (B (decI cj)))
      rw [List.set_set] at hown2
      have hb4:=(bh.trans (hb2.mono bh.size)).setCell hsz (.string (B (decI cj))) (p:=⟨gx,j,none⟩)
      have e5:(w2.setCell ⟨gx,j,none⟩ (.string (B (decI cj)))).cell? ⟨kt,5,none⟩=some (.int .i64 cols):=by
       rw [cell_at (Below.heap_setCell _ _ _ _ (Nat.ne_of_lt hgk)) 5]
       exact (hb2.cell (p:=⟨kt,5,none⟩) (Nat.lt_trans hgk hgx3)).trans d5s
      clear HOF hb2 dc d5 d6 d5s d6s hz0 hfz d0 d1 f0 f1 f2
      go_wp2_with fail
      go_roundw
      case rel=>exact ⟨j+1,_,by omega,by go_num,by rw [← strs_set];exact hown2,HN2.out,hb4⟩
      case measure=>simp [intOf];omega
     | false =>
      have HN2:=Lib.hid (HNX.out [48] ⟨fun _=>rfl,fun h=>absurd h (by omega),fun h=>absurd h (by omega)⟩)
      clear hjv
      go_wp2_with fail
      go_roundw
      case rel=>exact ⟨j+1,_,by omega,by go_num,by rw [← strs_set];exact hown1,HN2.out,bh⟩
      case measure=>simp [intOf];omega
    ·have hjvI:¬ (j:Int)<(vars:Int):=by omega
     by_cases hjc:j<cols
     ·have hjcI:¬ (cols:Int)≤(j:Int):=by omega
      have HN2:=Lib.hid (HNX.out [48] ⟨fun h=>absurd h hjv,fun _ _=>rfl,fun h=>absurd h (by omega)⟩)
      clear hjv hjc
      go_wp2_with fail
      go_roundw
      case rel=>exact ⟨j+1,_,by omega,by go_num,by rw [← strs_set];exact hown1,HN2.out,bh⟩
      case measure=>simp [intOf];omega
     ·have hjcI:(cols:Int)≤(j:Int):=by omega
      have HN2:=Lib.hid (HNX.out unit ⟨fun h=>absurd h hjv,fun _ h=>absurd h hjc,fun _=>rfl⟩)
      have hown3:=hown1.stored j (.string (B unit))
      rw [List.set_set] at hown3
      clear hjv hjc
      go_wp2_with fail
      go_roundw
      case rel=>exact ⟨j+1,_,by omega,by go_num,by rw [← strs_set];exact hown3,HN2.out,bh.setCell hsz _⟩
      case measure=>simp [intOf];omega
   ·have hjm:j=cols+m:=by omega
    have hjx:¬ (j:Int)<(cols:Int)+(m:Int):=by omega
    have HX:=Lib.hid (show TxL (cols+m) (CsP cost unit own vars cols) xs from htx.imp fun x hx u h=>h (by omega))
    have HOW:=Lib.hid (hown.mono (Bs':=w.heap.size) (by omega))
    clear hjm htx hown HTX
    go_wp2_with fail
    go_ret
    first
     | exact ⟨X,cx,xs,rfl,HOW.out,HX.out,hbw⟩
     | exact ⟨X,cx,rfl,xs,HOW.out,HX.out,hbw⟩
     | exact ⟨X,cx,rfl,⟨xs,HOW.out,HX.out⟩,hbw⟩
end Go.Proofs.YtmppmdmekomjbaaGreatDoor

/- best.search.walk. (Printed by wip/tk/mkToQ.py.) -/
import Derived.Test.YtjcekdiocliddaaGreatDoorToP
import Derived.Deep.LoopGhost
import Derived.Deep.DeepCutAuto
namespace Go.Proofs.YtjcekdiocliddaaGreatDoor
open Lib (hid)
open Go.RowKit Num Txt Pf Tk
set_option linter.unusedVariables false
attribute [local go_sem] BS Bg Bt Bm Be Ba
def SF (x:IV) (t:TV) (s n:Nat) (l:List (Int × Bool)) (frm:Int) (L:List (Int × Int)) (v:Int × Bool):List (List (Int × Bool)):=match sO x v with
 |none=>[]
 |some st=>if (vL x t frm st L).length=0 then [] else WF x t s n (l ++ [v]) st.place (vL x t frm st L)
theorem stopE_ex {x:IV} {v:Int × Bool} {w w':World} {e:Ending} (h:SE x v w e w'):∃ (st:St) (k:Int),e=.returned (.tuple #[Dk st,.int .i64 k])/\((k=0/\sO x v=some st)∨(k≠0/\sO x v=none))/\Below w.heap.size w w':=by
 unfold SE at h
 cases hs:sO x v with
 |none =>
  rw [hs] at h;obtain ⟨⟨k,hk,he⟩,hb⟩:=h;exact ⟨S0,k,he,.inr ⟨hk,rfl⟩,hb⟩
 |some st =>
  rw [hs] at h;exact ⟨st,0,h.1,.inl ⟨rfl,rfl⟩,h.2⟩
theorem walkF_succ (x:IV) (t:TV) (s n:Nat) (l:List (Int × Bool)) (frm:Int) (L:List (Int × Int)):WF x t s (n+1) l frm L=(NV x s l).flatMap (SF x t s n l frm L):=rfl
set_option maxHeartbeats 16000000 in
set_option maxRecDepth 100000 in
theorem bwalk_any (m:IM) (k s t gs Bs:Nat) (w0:World) (hm:IA w0 m) (hok:IK m.v) (hml:m.ords.length<=3) (hT:Tb w0) (hk:k<m.types.length) (hs:s<1048576) (hB0:w0.heap.size<=Bs) (hgs:Bs<=gs) (ht:t<=6) :
  ∀ (rem:Nat) (l:List (Int × Bool)) (A:Option Addr) (c:Nat) (frm:Int) (L:List (Int × Int)) (Al:Option Addr) (cl:Nat) (P:List (Int × Bool)->Prop) (cm:CM) (f:Bool) (w:World),l.length+rem=t->(∀ vs ∈ sF m.v s rem l,vs ∈ sF m.v s (Ad m.v s) [])->Below w0.heap.size w0 w->Bs<=w.heap.size->BsAt m k s t gs Bs cm f w->Sh m.v (k:Int) s P f cm.price->VO w Bs A c l->StO w Bs Al cl L->(∀ a ∈ L,StOK a)->L.length<=2*2 ^ l.length ->
   Calls Tryz.prog 34 #[.pointer (some ⟨gs,0,none⟩),.slice A l.length c,.int .i64 frm,.slice Al L.length cl] w (BWalkE m k s t gs Bs (fun vs=>P vs∨vs ∈ WF m.v m.types[k].t s rem l frm L) w):=by
 intro rem
 induction rem with
 |zero =>
  intro l A c frm L Al cl P cm f w hlen hsub hb0 hB hbs hsr hl hst hL hLl;refine (bwalk0_any m k s t gs Bs l A c frm _ P cm f w0 w hm hok hml hT hk hb0 hB0 hgs hB (by omega) (by omega) (hsub l (by simp [sF])) hbs hsr hl).mono ?_;rintro e w' ⟨he,c2,f2,h1,h2,h3⟩;exact ⟨he,c2,f2,h1,h2.imp (fun vs hv=>hv.imp id (fun h=>by simpa [WF] using h)),h3⟩
 |succ rem ih =>
  intro l A c frm L Al cl P cm f w hlen hsub hb0 hB hbs hsr hl hst hL hLl;have HBS:=hid hbs;have HSR:=hid hsr;have HL:=hid hl;have HST:=hid hst;have HLO:=hid hL;have hcp:=OR.cap hl;have HCP:=hid hcp;have HAN:=hid (fun h=>ownNone hl h);have HM:=hid (fun w' (hb:Below w0.heap.size w0 w')=>hm.below hb)
  have HTB:=hid (fun w' (hb:Below w0.heap.size w0 w')=>hT.below hb);have HB0:=hid hb0;have HBW:=hid hB;have hlb:=ib (show ¬ (l.length:Int)=(t:Int) by omega);have x8:=CX hbs.row 8 (.int .i64 (t:Int)) rfl;have HRW:=hid hbs.row;have hd:Below w.heap.size w w.drew:=(Below.refl _ w).drew
  have HNX:=hid (snext_any m s l A c w.drew (hm.below (bL hb0 hd)) hml hs ((OR.cells hl).below hd) hcp);have HIH:=hid ih;clear ih;have HSUB:=hid hsub;have hl6:l.length<=5:=by omega
  unfold maxLen at hcp;clear hbs hsr hl hst hL hsub hb0 hB;go_enter Tryz.func34,Tryz.ntmps34;(try simp only [Bm]);go_upto_region 7 with fail;have hS0:(fun w'=>Below w.heap.size w w') w.drew:=hd;refine wp_region_held_drew (S:=fun w'=>Below w.heap.size w w') (by kernel_rfl) hS0 (fun _=>?_);refine tk 0 ?_;refine tk 1 ?_;refine tk 2 ?_;(try simp only [Act.put,P1,pu,P3])
  refine tkl 3 [.slice m.pA m.places.length m.pc,.slice m.aA m.arcs.length m.ac,.slice m.tA m.types.length m.tc,.slice m.oA m.ords.length m.oc,.slice m.xA m.apart.length m.xc,.slice m.bA m.before.length m.bc] Tryz.underlying30 (fun w hSw=>fun j v h=>CX (rK HRW.out hSw) (0+j) v (ins_cells h)) ?_;refine tk 4 ?_;refine tk 5 ?_;refine tk 6 ?_;(try simp only [Act.put,P1,pu,P3])
  refine tq 7 (fun w hSw=>CX (rK HRW.out hSw) 7 (.int .i64 (s:Int)) rfl) ?_;refine tk 8 ?_;refine tk 11 ?_;(try simp only [Act.put,P1,pu,P3]);refine one 9 (fun K hK=>?_);go_simp;refine HNX.out.mono ?_;rintro e w1 ⟨NA,nc,rfl,hown,hb1⟩;have hS1:Below w.heap.size w w1:=bL hd hb1;refine hK.out _ _ hS1 (fun _=>?_);clear hK K;refine tk 10 ?_;(try simp only [Act.put,P1,pu,P3])
  refine wpAnyH_done (by kernel_rfl) ?_ _;have HN1:=hid (hown.mono (Nat.le_trans HBW.out hd.size));have hnp:=OR.cap hown;have HF1:=hid (FR.below (ts:=bS) hS1 HBW.out);have HBS1:=hid (HBS.out.below hS1);have HSZ1:=hid (Nat.le_trans HBW.out hS1.size);have HFI:=hid (walkF_succ m.v m.types[k].t s rem l frm L)
  have HSQ:=hid (show sF m.v s (rem+1) l=(NV m.v s l).flatMap fun v=>sF m.v s rem (l ++ [v]) from rfl);have HNR:=hid (fun v (h:v ∈ NV m.v s l)=>(mn.1 h).1);obtain ⟨nx,hnx⟩:∃ nx,nx=NV m.v s l:=⟨_,rfl⟩
  rw [<- hnx] at HN1 hnp HFI HSQ HNR;rw [<- hnx];unfold maxLen at hnp;clear hown hb1 hS1 hS0 hd hnx HNX HBS x8;go_wp2_with fail
  go_loopg [13,14,15,16,79] nx.length (fun gk _ _ _ _ j wr=>∃ (q:Nat) (cm':CM) (f':Bool),q<=nx.length/\gk+q=nx.length/\j=.int .i64 q/\BsAt m k s t gs Bs cm' f' wr/\Sh m.v (k:Int) s (fun vs=>P vs∨vs ∈ (nx.take q).flatMap (SF m.v m.types[k].t s rem l frm L)) f' cm'.price/\FR Bs bS w wr/\FR Bs bS w1 wr)
  case atStart=>exact ⟨0,cm,f,Nat.zero_le _,rfl,rfl,HBS1.out,HSR.out.imp (fun vs hv=>hv.elim id (fun h=>absurd h (by simp))),HF1.out,FR.refl _ _ _⟩
  case round =>
   clear HBS1 HF1 HSR;obtain ⟨q,cm2,f2,hq,hgk,rfl,hbs,hsr,hfr,hfr1⟩:=hrel;have HBS:=hid hbs;have HSR:=hid hsr;have HF:=hid hfr;have HF1:=hid hfr1;clear hbs hsr hfr hfr1;by_cases hlt:q<nx.length
   ·have hlt1:(q:Int)<(nx.length:Int):=by omega
    have HNX:=hid (OR.keptT HN1.out HF1.out.kt (by decide));obtain ⟨g3,o3,hA3,hg3,hx3⟩:=eP vC (by decide) (OR.cells HNX.out) (by omega);have y0:=hx3 q hlt 0 _ rfl;have y1:=hx3 q hlt 1 _ rfl;rw [Nat.add_zero] at y0;have HTK:=hid (takeF hlt (SF m.v m.types[k].t s rem l frm L));have HVR:=hid (HNR.out _ (List.getElem_mem hlt))
    have HVM:=hid (show ∀ vs ∈ sF m.v s rem (l ++ [nx[q]]),vs ∈ sF m.v s (Ad m.v s) [] from fun vs h=>HSUB.out vs (by rw [HSQ.out];exact List.mem_flatMap.2 ⟨_,List.getElem_mem hlt,h⟩));subst hA3;clear hx3;obtain ⟨y,hy⟩:∃ y,y=nx[q]:=⟨_,rfl⟩
    rw [<- hy] at y0 y1 HTK HVR HVM;clear hy;obtain ⟨n5,p5⟩:=Na wr (.cells #[.int .i64 y.1,.bool y.2] 92);go_upto_region 10 with fail;have HSR0:=hid (Nat.le_trans HBW.out HF.out.kt.size);have HF5:=hid (HF.out.trans (FR.below (ts:=bS) n5 HSR0.out));have HF15:=hid (HF1.out.trans (FR.below (ts:=bS) n5 HSR0.out));have HBS5:=hid (HBS.out.below n5);have HP5:=hid p5
    have HSZ5:=hid (Nat.le_trans HSR0.out n5.size);generalize wr.alloc (.cells #[.int .i64 y.1,.bool y.2] 92)=w5 at *;obtain ⟨g5,hg5⟩:∃ g5,g5=wr.heap.size:=⟨_,rfl⟩
    rw [<- hg5] at HP5;rw [<- hg5];clear n5 p5 hg5 y0 y1 HF HF1 HBS HNX;have HRW5:=hid HBS5.out.row;have HW05:=hid (HB0.out.trans (HF5.out.bel.mono hB0));have HSTO:=hid (fun w' (hb:Below w5.heap.size w5 w')=>oy m y w' (hm.below (HW05.out.trans (hb.mono HW05.out.size))).ords hm.ol (by omega) (by have h1:=HVR.out;rw [oL] at h1;unfold fits;omega))
    go_cut [14,15,79] (fun u e j wx=>∃ (st:St) (kk:Int) (g:Nat),u=.pointer (some ⟨g,0,none⟩)/\e=.int .i64 kk/\j=.int .i64 q/\((kk=0/\sO m.v y=some st)∨(kk≠0/\sO m.v y=none))/\wx.heap[g]? = some (.cells (SR st) 134)/\Below w5.heap.size w5 wx)
    case first =>
     as_aux_lemma =>
      have hd:Below w5.heap.size w5 w5.drew:=(Below.refl _ w5).drew;have hS0:(fun w'=>Below w5.heap.size w5 w') w5.drew:=hd;refine wp_region_held_drew (S:=fun w'=>Below w5.heap.size w5 w') (by kernel_rfl) hS0 (fun _=>?_);refine tk 0 ?_;refine tk 1 ?_;refine tk 2 ?_;refine tk 3 ?_;(try simp only [Act.put,P1,pu,P3])
      refine tq 4 (fun w hSw=>CX (rK HRW5.out hSw) 3 (.slice m.oA m.ords.length m.oc) rfl) ?_;(try simp only [Act.put,P1,pu,P3]);refine tkr 5 Tryz.underlying92 (fun w hSw=>rK HP5.out hSw) ?_;(try simp only [Act.put,P1,pu,P3])
      refine wpAnyH_ready (rs:=[6,10]) (by kernel_rfl) (by simp) (AllReadyH.cons (by simp only [List.getElem?_toArray,List.getElem?_cons_succ,List.getElem?_cons_zero];rfl) (fun K hK=>?_) (AllReadyH.cons (by simp only [List.getElem?_toArray,List.getElem?_cons_succ,List.getElem?_cons_zero];rfl) (fun K hK=>?_) AllReadyH.nil))
      ·skip
       go_simp;refine (HSTO.out _ hd).mono ?_;rintro e w6 he;obtain ⟨st,kk,rfl,hcase,hb6⟩:=stopE_ex he;have hS6:Below w5.heap.size w5 w6:=bL hd hb6;refine hK.out _ _ (hS6) (fun _=>?_);clear hK K;refine tk 7 ?_;refine tk 8 ?_;refine tk 9 ?_;(try simp only [Act.put,P1,pu,P3]);obtain ⟨n7,p7⟩:=Na w6 (.cells #[.int .i64 0,.int .i64 0,.int .i64 0,.int .i64 0] 134)
       refine one 10 (fun K hK=>?_);refine Wg (by rfl) ?_;refine Wa 134 rfl (#[.int .i64 0,.int .i64 0,.int .i64 0,.int .i64 0]) (by kernel_rfl) ?_;refine hK.out _ _ (bL hS6 n7) (fun _=>?_);clear hK K;(try simp only [Act.put,P1,pu,P3]);refine one 11 (fun K hK=>?_);refine Wg (by rfl) ?_
       refine wp_store_row 134 _ _ rfl w6.heap.size (SR st) rfl rfl 134 _ p7 (by kernel_rfl) rfl (by kernel_rfl) ?_;refine hK.out _ _ (below_setRow (bL hS6 n7) hS6.size _) (fun _=>?_);clear hK K;(try simp only [Act.put]);refine tk 12 ?_;(try simp only [Act.put,P1,pu,P3]);refine wpAnyH_done (by kernel_rfl) ?_ _;go_wp2_with fail;go_meet
       exact ⟨st,kk,w6.heap.size,rfl,rfl,rfl,hcase,setRow_heap _ _ _ _ _ _ p7,below_setRow (bL hS6 n7) hS6.size _⟩
      ·skip
       obtain ⟨n7,p7⟩:=Na w5.drew (.cells #[.int .i64 0,.int .i64 0,.int .i64 0,.int .i64 0] 134);have hdA:=bL hd n7;refine Wg (by rfl) ?_;refine Wa 134 rfl (#[.int .i64 0,.int .i64 0,.int .i64 0,.int .i64 0]) (by kernel_rfl) ?_;refine hK.out _ _ (hdA) (fun _=>?_);clear hK K;(try simp only [Act.put,P1,pu,P3]);refine one 6 (fun K hK=>?_);go_simp
       refine (HSTO.out _ hdA).mono ?_;rintro e w6 he;obtain ⟨st,kk,rfl,hcase,hb6⟩:=stopE_ex he;have hS6:=bL hdA hb6;have hP7:=rK p7 hb6;refine hK.out _ _ (hS6) (fun _=>?_);clear hK K;refine tk 7 ?_;refine tk 8 ?_;refine tk 9 ?_;(try simp only [Act.put,P1,pu,P3]);refine one 11 (fun K hK=>?_);refine Wg (by rfl) ?_
       refine wp_store_row 134 _ _ rfl w5.drew.heap.size (SR st) rfl rfl 134 _ hP7 (by kernel_rfl) rfl (by kernel_rfl) ?_;refine hK.out _ _ (below_setRow hS6 hd.size _) (fun _=>?_);clear hK K;(try simp only [Act.put]);refine tk 12 ?_;(try simp only [Act.put,P1,pu,P3]);refine wpAnyH_done (by kernel_rfl) ?_ _;go_wp2_with fail;go_meet
       exact ⟨st,kk,w5.drew.heap.size,rfl,rfl,rfl,hcase,setRow_heap _ _ _ _ _ _ hP7,below_setRow hS6 hd.size _⟩
    case rest =>
     rename World=>w6;obtain ⟨st,kk,g6,rfl,rfl,rfl,hcase,hr6,hb6⟩:=hcut;have HR6:=hid hr6;have HCS:=hid hcase;have HF6:=hid (HF5.out.trans (FR.below (ts:=bS) hb6 HSZ5.out));have HF16:=hid (HF15.out.trans (FR.below (ts:=bS) hb6 HSZ5.out));have HBS6:=hid (HBS5.out.below hb6);have HP6:=hid (rK HP5.out hb6);have HSZ6:=hid (Nat.le_trans HSZ5.out hb6.size)
     clear hr6 hcase hb6 HF5 HF15 HBS5 HP5 HSZ5 HRW5 HW05 HSTO;by_cases hk0:kk=0
     ·have hst:sO m.v y=some st:=HCS.out.elim (fun h=>h.2) (fun h=>absurd hk0 h.1)
      have HSK:=hid (so hok hst).1;have HSF:=hid (show SF m.v m.types[k].t s rem l frm L y=if (vL m.v m.types[k].t frm st L).length=0 then [] else WF m.v m.types[k].t s rem (l ++ [y]) st.place (vL m.v m.types[k].t frm st L) by unfold SF;rw [hst]);have HW06:=hid (HB0.out.trans (HF6.out.bel.mono hB0));have HST6:=hid (OR.keptT HST.out HF6.out.kt (by decide))
      have h2l:2 ^ l.length<=2 ^ 5:=Nat.pow_le_pow_right (by decide) hl6;have HVI:=hid (bvisit_any m k (s:Int) (t:Int) cm2 f2 gs L frm st Al cl w0 w6 hm hok hT HW06.out hk HBS6.out.row (OR.cells HST6.out) (OR.cap HST6.out) (by omega) HSK.out HLO.out);subst hk0;clear hst h2l HCS;go_wp2_with (refine lr HR6.out Tryz.underlying134 ?_)
      refine HVI.out.mono ?_;rintro e w7 ⟨A7,c7,rfl,hown7,hb7,_⟩;have HVL:=hid (Vl m.v m.types[k].t frm st L L.length (Nat.le_refl _));have HVO:=hid (visit_ok hok (hok.types _ (Ti (List.getElem_mem hk))) (frm:=frm) HSK.out HLO.out);have HTE:=hid HTK.out;obtain ⟨V,hV⟩:∃ V,V=vL m.v m.types[k].t frm st L:=⟨_,rfl⟩
      have hVl:V.length<=2*L.length:=by rw [hV];have h:=HVL.out;rw [List.take_of_length_le (Nat.le_refl _)] at h;exact h
      rw [<- hV] at hown7 HVO HSF;rw [<- hV];have HS7:=hid (hown7.mono HSZ6.out);have hVc:=OR.cap hown7;have HF7:=hid (HF6.out.trans (FR.below (ts:=bS) hb7 HSZ6.out));have HF17:=hid (HF16.out.trans (FR.below (ts:=bS) hb7 HSZ6.out));have HBS7:=hid (HBS6.out.below hb7);have HP7:=hid (rK HP6.out hb7);have HR7:=hid (rK HR6.out hb7)
      have HSZ7:=hid (Nat.le_trans HSZ6.out hb7.size);unfold maxLen at hVc;clear hown7 hb7 hV HVI HVL HF6 HF16 HBS6 HP6 HR6 HSZ6 HW06 HST6 HSK;by_cases hV0:V.length=0
      ·have hv1:¬ (0:Int)<(V.length:Int):=by omega
       have HT2:=hid (show (nx.take (q+1)).flatMap (SF m.v m.types[k].t s rem l frm L)=(nx.take q).flatMap (SF m.v m.types[k].t s rem l frm L) by rw [HTE.out,HSF.out,if_pos hV0,List.append_nil]);clear hV0;go_wp2_with fail;go_roundg (gk - 1)
       case measure=>omega
       case rel=>exact ⟨q+1,cm2,f2,by omega,by omega,by go_num,HBS7.out,by rw [HT2.out];exact HSR.out,HF7.out,HF17.out⟩
      ·have hv1:(0:Int)<(V.length:Int):=by omega
       have HT2:=hid (show (nx.take (q+1)).flatMap (SF m.v m.types[k].t s rem l frm L)=(nx.take q).flatMap (SF m.v m.types[k].t s rem l frm L) ++ WF m.v m.types[k].t s rem (l ++ [y]) st.place V by rw [HTE.out,HSF.out,if_neg hV0]);clear hV0;go_upto_region 14 with fail;have hL7:VO w7 Bs A c l:=OR.keptT HL.out HF7.out.kt (by decide)
       have hd:Below w7.heap.size w7 w7.drew:=(Below.refl _ w7).drew;have hfd:FR Bs bS w7 w7.drew:=FR.below hd HSZ7.out;have hS0:(fun w'=>FR Bs bS w7 w') w7.drew:=hfd;refine wp_region_held_drew (S:=fun w'=>FR Bs bS w7 w') (by kernel_rfl) hS0 (fun _=>?_);refine tk 0 ?_;refine tk 1 ?_;(try simp only [Act.put,P1,pu,P3])
       refine tkr 3 Tryz.underlying92 (fun w hSw=>hSw.kt.row _ _ _ _ HP7.out (by decide)) ?_;refine tk 6 ?_;refine tq 7 (fun w hSw=>CX (hSw.kt.row _ _ _ _ HR7.out (by decide)) 0 (.int .i64 st.place) rfl) ?_;refine tk 8 ?_;(try simp only [Act.put,P1,pu,P3])
       refine wpAnyH_ready (rs:=[2,4]) (by kernel_rfl) (by simp) (AllReadyH.cons (by simp only [List.getElem?_toArray,List.getElem?_cons_succ,List.getElem?_cons_zero];rfl) (fun K hK=>?_) (AllReadyH.cons (by simp only [List.getElem?_toArray,List.getElem?_cons_succ,List.getElem?_cons_zero];rfl) (fun K hK=>?_) AllReadyH.nil))
       ·skip
        obtain ⟨n8,p8⟩:=Na w7.drew (.cells #[.int .i64 y.1,.bool y.2] 92);have hFA:FR Bs bS w7 (w7.drew.alloc (.cells #[.int .i64 y.1,.bool y.2] 92)):=hfd.trans (FR.below n8 (Nat.le_trans HSZ7.out hd.size))
        have HUX:∀ j u,(VC y)[j]? = some u->(w7.drew.alloc (.cells #[.int .i64 y.1,.bool y.2] 92)).cell? ((⟨w7.drew.heap.size,0,none⟩:Addr).add j)=some u:=fun j u hj=>by
         rw [Go.WideShapes.add_plain];exact CX (w:=(w7.drew.alloc (.cells #[.int .i64 y.1,.bool y.2] 92))) p8 (0+j) u (by rw [Nat.zero_add];simpa [VC] using hj)
        have HAHID:=hid (And.intro hFA (And.intro n8 HUX));clear n8 p8 hFA HUX;go_simp;refine (cA A l.length c _ HCP.out).mono ?_;rintro e w8 ⟨rfl,hw8⟩;subst hw8;refine hK.out _ _ (hfd) (fun _=>?_);clear hK K;(try simp only [Act.put,P1,pu,P3]);refine one 4 (fun K hK=>?_);go_simp;refine hK.out _ _ (HAHID.out.1) (fun _=>?_);clear hK K;(try simp only [Act.put,P1,pu,P3])
        obtain ⟨hFA,hN8,HUX⟩:=HAHID.out;have hLA:VO (w7.drew.alloc (.cells #[.int .i64 y.1,.bool y.2] 92)) Bs A c l:=OR.keptT hL7 hFA.kt (by decide);have hSZA:Bs<=(w7.drew.alloc (.cells #[.int .i64 y.1,.bool y.2] 92)).heap.size:=Nat.le_trans HSZ7.out hFA.kt.size;refine one 5 (fun K hK=>?_)
        refine Wc ep _ _ rfl A l.length (l.flatMap VC) rfl (OR.cells hLA) (by rw [fl VC vC]) HAN.out ⟨w7.drew.heap.size,0,none⟩ (VC y) rfl rfl HUX (by unfold maxLen;omega) (by omega) ?_;intro A9 c9 w9 hown9 hb9;have HV9:=hid (show VO w9 Bs A9 c9 (l ++ [y]) from by show OR _ _ _ _ _ _ _ _;rw [sL,<- Fs];exact hown9.mono hSZA)
        have hF9:=hFA.trans (FR.below (ts:=bS) hb9 hSZA);refine hK.out _ _ (hF9) (fun _=>?_);clear hK K;(try simp only [Act.put,P1,pu,P3]);refine one 9 (fun K hK=>?_);go_simp;have hlen9:(l ++ [y]).length=l.length+1:=sL l y
        have hih:=HIH.out (l ++ [y]) A9 c9 st.place V A7 c7 (fun vs=>P vs∨vs ∈ (nx.take q).flatMap (SF m.v m.types[k].t s rem l frm L)) cm2 f2 w9 (by rw [hlen9];omega) HVM.out (HB0.out.trans ((HF7.out.trans hF9).bel.mono hB0)) (Nat.le_trans HSZ7.out hF9.kt.size) (((HBS7.out.below hd).below hN8).below hb9) HSR.out HV9.out (OR.keptT HS7.out hF9.kt (by decide)) HVO.out (by rw [hlen9,Nat.pow_succ];omega)
        rw [hlen9] at hih;refine hih.mono ?_;rintro e w10 ⟨rfl,cm3,f3,hbs3,hsr3,hf3⟩;have hF10:=hF9.trans hf3;refine hK.out _ _ (hF10) (fun _=>?_);clear hK K;refine wpAnyH_done (by kernel_rfl) ?_ _;go_wp2_with fail;go_roundg (gk - 1)
        case measure=>omega
        case rel=>exact ⟨q+1,cm3,f3,by omega,by omega,by go_num,hbs3,hsr3.imp (fun vs h=>by rw [HT2.out,List.mem_append] at h;exact h.elim (fun h=>.inl (.inl h)) (fun h=>h.elim (fun h=>.inl (.inr h)) .inr)),HF7.out.trans hF10,HF17.out.trans hF10⟩
       ·skip
        obtain ⟨n8,p8⟩:=Na w7.drew (.cells #[.int .i64 y.1,.bool y.2] 92);have hFA:FR Bs bS w7 (w7.drew.alloc (.cells #[.int .i64 y.1,.bool y.2] 92)):=hfd.trans (FR.below n8 (Nat.le_trans HSZ7.out hd.size))
        have HUX:∀ j u,(VC y)[j]? = some u->(w7.drew.alloc (.cells #[.int .i64 y.1,.bool y.2] 92)).cell? ((⟨w7.drew.heap.size,0,none⟩:Addr).add j)=some u:=fun j u hj=>by
         rw [Go.WideShapes.add_plain];exact CX (w:=(w7.drew.alloc (.cells #[.int .i64 y.1,.bool y.2] 92))) p8 (0+j) u (by rw [Nat.zero_add];simpa [VC] using hj)
        have HAHID:=hid (And.intro hFA (And.intro n8 HUX));clear n8 p8 hFA HUX;go_simp;refine hK.out _ _ (HAHID.out.1) (fun _=>?_);clear hK K;(try simp only [Act.put,P1,pu,P3]);refine one 2 (fun K hK=>?_);go_simp;refine (cA A l.length c _ HCP.out).mono ?_;rintro e w8 ⟨rfl,hw8⟩;subst hw8;refine hK.out _ _ (HAHID.out.1) (fun _=>?_);clear hK K;(try simp only [Act.put,P1,pu,P3])
        obtain ⟨hFA,hN8,HUX⟩:=HAHID.out;have hLA:VO (w7.drew.alloc (.cells #[.int .i64 y.1,.bool y.2] 92)) Bs A c l:=OR.keptT hL7 hFA.kt (by decide);have hSZA:Bs<=(w7.drew.alloc (.cells #[.int .i64 y.1,.bool y.2] 92)).heap.size:=Nat.le_trans HSZ7.out hFA.kt.size;refine one 5 (fun K hK=>?_)
        refine Wc ep _ _ rfl A l.length (l.flatMap VC) rfl (OR.cells hLA) (by rw [fl VC vC]) HAN.out ⟨w7.drew.heap.size,0,none⟩ (VC y) rfl rfl HUX (by unfold maxLen;omega) (by omega) ?_;intro A9 c9 w9 hown9 hb9;have HV9:=hid (show VO w9 Bs A9 c9 (l ++ [y]) from by show OR _ _ _ _ _ _ _ _;rw [sL,<- Fs];exact hown9.mono hSZA)
        have hF9:=hFA.trans (FR.below (ts:=bS) hb9 hSZA);refine hK.out _ _ (hF9) (fun _=>?_);clear hK K;(try simp only [Act.put,P1,pu,P3]);refine one 9 (fun K hK=>?_);go_simp;have hlen9:(l ++ [y]).length=l.length+1:=sL l y
        have hih:=HIH.out (l ++ [y]) A9 c9 st.place V A7 c7 (fun vs=>P vs∨vs ∈ (nx.take q).flatMap (SF m.v m.types[k].t s rem l frm L)) cm2 f2 w9 (by rw [hlen9];omega) HVM.out (HB0.out.trans ((HF7.out.trans hF9).bel.mono hB0)) (Nat.le_trans HSZ7.out hF9.kt.size) (((HBS7.out.below hd).below hN8).below hb9) HSR.out HV9.out (OR.keptT HS7.out hF9.kt (by decide)) HVO.out (by rw [hlen9,Nat.pow_succ];omega)
        rw [hlen9] at hih;refine hih.mono ?_;rintro e w10 ⟨rfl,cm3,f3,hbs3,hsr3,hf3⟩;have hF10:=hF9.trans hf3;refine hK.out _ _ (hF10) (fun _=>?_);clear hK K;refine wpAnyH_done (by kernel_rfl) ?_ _;go_wp2_with fail;go_roundg (gk - 1)
        case measure=>omega
        case rel=>exact ⟨q+1,cm3,f3,by omega,by omega,by go_num,hbs3,hsr3.imp (fun vs h=>by rw [HT2.out,List.mem_append] at h;exact h.elim (fun h=>.inl (.inl h)) (fun h=>h.elim (fun h=>.inl (.inr h)) .inr)),HF7.out.trans hF10,HF17.out.trans hF10⟩
     ·have HST2:=hid (show SF m.v m.types[k].t s rem l frm L y=[] by unfold SF;rw [HCS.out.elim (fun h=>absurd h.1 hk0) (fun h=>h.2)])
      have HT2:=hid (show (nx.take (q+1)).flatMap (SF m.v m.types[k].t s rem l frm L)=(nx.take q).flatMap (SF m.v m.types[k].t s rem l frm L) by rw [HTK.out,HST2.out,List.append_nil]);have hkb:=nf (ib hk0);clear hk0 HCS;go_wp2_with fail;go_roundg (gk - 1)
      case measure=>omega
      case rel=>exact ⟨q+1,cm2,f2,by omega,by omega,by go_num,HBS6.out,by rw [HT2.out];exact HSR.out,HF6.out,HF16.out⟩
   ·have hlt1:¬ (q:Int)<(nx.length:Int):=by omega
    have HTK:=hid (show nx.take q=nx from List.take_of_length_le (by omega));go_wp2_with fail;go_end0;exact ⟨rfl,cm2,f2,HBS.out,HSR.out.imp (fun vs hv=>hv.imp id (fun h=>by rw [HFI.out] at h;rw [HTK.out];exact h)),HF.out⟩
end Go.Proofs.YtjcekdiocliddaaGreatDoor

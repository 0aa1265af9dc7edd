/- sequence.forbidden, All. (Printed by wip/tk/mkTnH.py.) -/
import Derived.Test.YtjcekdiocliddaaGreatDoorG86
import Derived.Laws.EntriesVeiled
namespace Go.Proofs.YtjcekdiocliddaaGreatDoor
open Lib (hid)
open Go.RowKit Num Txt Pf Tk
set_option maxHeartbeats 32000000
set_option maxRecDepth 100000
set_option linter.unusedVariables false
attribute [local go_sem] BS Bg Bt Bm Be Ba
theorem mem_bit {s i:Nat} (hi:i<=62):(i:Int) ∈ MS s↔s.testBit i=true:=by rw [mS,Ht hi]
def ForbE (x:IV) (s:Nat) (w:World) (e:Ending) (w':World):Prop:=∃ b:Bool,e=.returned (.bool b)/\(b=false↔AP x s)/\Below w.heap.size w w'
theorem ForbE.bad {x:IV} {s:Nat} {w w':World} (h:¬ AP x s) (hb:Below w.heap.size w w'):ForbE x s w (.returned (.bool true)) w':=⟨true,rfl,⟨fun h2=>absurd h2 (by decide),fun h2=>absurd h2 h⟩,hb⟩
theorem ForbE.of {x:IV} {s:Nat} {w w':World} {k:Int} {b:Bool} (hb:b=!(k == 0)) (h:k=0↔AP x s) (hw:Below w.heap.size w w'):ForbE x s w (.returned (.bool b)) w':=by
 refine ⟨b,rfl,?_,hw⟩;subst hb;rw [<- h];by_cases e:k=0
 ·subst e;simp
 ·simp [e]
theorem forbid_any (m:IM) (s:Nat) (w:World) (hm:IA w m) (hml:m.ords.length<=3) (hs:s<2 ^ m.ords.length) :
  Calls Tryz.prog 87 #[iA m,.int .i64 s] w (ForbE m.v s w):=by
 obtain ⟨n4,p4⟩:=Na w (.cells (iQ m) 30);have HN4:=hid n4;have HK:=hid p4;have HO:=hid hm.ords;have hol:=hm.ol;have hs8:s<8:=Nat.lt_of_lt_of_le hs (Nat.pow_le_pow_right (n:=2) (by decide) hml);have hs20:s<1048576:=by omega
 have HAL:=hid (fun (w':World) (hb:Below w.heap.size w w')=>aa m s w' (hm.below hb) hml hs);unfold maxLen at hol;clear hm n4 p4 hs;go_enter Tryz.func87,Tryz.ntmps87;(try simp only [Bm]);go_upto_region 1 with fail;rw [iq];generalize w.alloc (.cells (iQ m) 30)=wa at *;obtain ⟨h1,hh1⟩:∃ h1,h1=w.heap.size:=⟨_,rfl⟩
 rw [<- hh1] at HK;rw [<- hh1];clear hh1;have y3:=CX HK.out 3 (.slice m.oA m.ords.length m.oc) rfl;go_wp2_with fail;clear y3;go_loopw [10] (fun j wr=>∃ i:Nat,i<=m.ords.length/\j=.int .i64 i/\wr.heap[h1]? = some (.cells (iQ m) 30)/\Below w.heap.size w wr) (fun j _=>m.ords.length - (intOf j).toNat)
 case atStart=>exact ⟨0,Nat.zero_le _,rfl,HK.out,HN4.out⟩
 case round =>
  clear HK HN4;obtain ⟨i,hi,rfl,hr1,hbel⟩:=hrel;have HR1:=hid hr1;have HB:=hid hbel;clear hr1 hbel;by_cases hlt:i<m.ords.length
  ·have hlt1:(i:Int)<(m.ords.length:Int):=by omega
   obtain ⟨g2,o2,hA2,hg2,hx2⟩:=eP OM.cells_len (by decide) HO.out (by omega);have HOF:=hid (OO hlt);have q0:=(HB.out.cell (p:=⟨g2,o2+i*16+0,none⟩) hg2).trans (hx2 i hlt 0 _ rfl);have q1:=(HB.out.cell (p:=⟨g2,o2+i*16+1,none⟩) hg2).trans (hx2 i hlt 1 _ rfl);have q2:=(HB.out.cell (p:=⟨g2,o2+i*16+2,none⟩) hg2).trans (hx2 i hlt 2 _ rfl)
   have q3:=(HB.out.cell (p:=⟨g2,o2+i*16+3,none⟩) hg2).trans (hx2 i hlt 3 _ rfl);have q4:=(HB.out.cell (p:=⟨g2,o2+i*16+4,none⟩) hg2).trans (hx2 i hlt 4 _ rfl);have q5:=(HB.out.cell (p:=⟨g2,o2+i*16+5,none⟩) hg2).trans (hx2 i hlt 5 _ rfl);have q6:=(HB.out.cell (p:=⟨g2,o2+i*16+6,none⟩) hg2).trans (hx2 i hlt 6 _ rfl);have q7:=(HB.out.cell (p:=⟨g2,o2+i*16+7,none⟩) hg2).trans (hx2 i hlt 7 _ rfl)
   have q8:=(HB.out.cell (p:=⟨g2,o2+i*16+8,none⟩) hg2).trans (hx2 i hlt 8 _ rfl);have q9:=(HB.out.cell (p:=⟨g2,o2+i*16+9,none⟩) hg2).trans (hx2 i hlt 9 _ rfl);have q10:=(HB.out.cell (p:=⟨g2,o2+i*16+10,none⟩) hg2).trans (hx2 i hlt 10 _ rfl);have q11:=(HB.out.cell (p:=⟨g2,o2+i*16+11,none⟩) hg2).trans (hx2 i hlt 11 _ rfl)
   have q12:=(HB.out.cell (p:=⟨g2,o2+i*16+12,none⟩) hg2).trans (hx2 i hlt 12 _ rfl);have q13:=(HB.out.cell (p:=⟨g2,o2+i*16+13,none⟩) hg2).trans (hx2 i hlt 13 _ rfl);have q14:=(HB.out.cell (p:=⟨g2,o2+i*16+14,none⟩) hg2).trans (hx2 i hlt 14 _ rfl);have q15:=(HB.out.cell (p:=⟨g2,o2+i*16+15,none⟩) hg2).trans (hx2 i hlt 15 _ rfl);rw [Nat.add_zero] at q0;rw [hA2];clear hx2 hA2
   generalize m.ords[i]=om at *
   obtain ⟨n5,p5⟩:=Na wr (.cells #[.string (B om.o.name),.slice om.A om.o.load.length om.ca,.int .i64 om.o.pick.place,.int .i64 om.o.pick.opn,.int .i64 om.o.pick.cls,.int .i64 om.o.pick.serv,.int .i64 om.o.drop.place,.int .i64 om.o.drop.opn,.int .i64 om.o.drop.cls,.int .i64 om.o.drop.serv,.int .i64 om.o.skills,.int .i64 om.o.pen,.int .i64 om.o.split,.int .i64 om.o.last,.int .i64 om.o.now,.bool om.o.off] 136)
   go_upto_region 4 with fail
   generalize hw5:wr.alloc (.cells #[.string (B om.o.name),.slice om.A om.o.load.length om.ca,.int .i64 om.o.pick.place,.int .i64 om.o.pick.opn,.int .i64 om.o.pick.cls,.int .i64 om.o.pick.serv,.int .i64 om.o.drop.place,.int .i64 om.o.drop.opn,.int .i64 om.o.drop.cls,.int .i64 om.o.drop.serv,.int .i64 om.o.skills,.int .i64 om.o.pen,.int .i64 om.o.split,.int .i64 om.o.last,.int .i64 om.o.now,.bool om.o.off] 136)=w5 at *
   clear hw5;have HB5:=hid (bL HB.out n5);have HR15:=hid (rK HR1.out n5);obtain ⟨g5,hg5⟩:∃ g5,g5=wr.heap.size:=⟨_,rfl⟩
   rw [<- hg5] at p5;rw [<- hg5];have z15:=CX p5 15 (.bool om.o.off) rfl;clear n5 p5 hg5 HB HR1;clear q0 q1 q2 q3 q4 q5 q6 q7 q8 q9 q10 q11 q12 q13 q14 q15;have HSA:=hid (shr_and (s:=s) (i:=i) hs20);have hd0:0<=(s:Int) / 2 ^ i:=Int.ediv_nonneg (by omega) (Int.pow_nonneg (by omega));obtain ⟨off,hoff⟩:∃ off,off=om.o.off:=⟨_,rfl⟩
   rw [<- hoff] at HOF z15;clear hoff
   cases htb:s.testBit i with
   |false =>
    have hsa:=HSA.out;rw [htb,if_neg (by decide)] at hsa;clear HSA htb;go_wp2_with fail;go_roundw
    case rel=>exact ⟨i+1,by omega,by go_num,HR15.out,HB5.out⟩
    case measure=>simp [intOf];omega
   |true =>
    have hsa:=HSA.out;rw [htb,if_pos rfl] at hsa
    cases off with
    |false =>
     clear HSA htb HOF;go_wp2_with fail;go_roundw
     case rel=>exact ⟨i+1,by omega,by go_num,HR15.out,HB5.out⟩
     case measure=>simp [intOf];omega
    |true =>
     have HNA:=hid (show ¬ AP m.v s from fun h=>by
      have:=h.off _ ((mem_bit (s:=s) (i:=i) (by omega)).2 htb);rw [HOF.out] at this;cases this)
     clear HSA htb HOF;go_wp2_with fail;go_ret;exact ForbE.bad HNA.out HB5.out
  ·have hlt1:¬ (i:Int)<(m.ords.length:Int):=by omega
   go_wp2_with (refine lr HR1.out Tryz.underlying30 ?_)
   refine (HAL.out wr HB.out).mono ?_;rintro e w6 ⟨k,rfl,hk,hb6⟩;have HKK:=hid hk;have HB6:=hid (bL HB.out hb6);clear hk hb6;go_wp2_with fail;go_ret;exact ForbE.of rfl HKK.out HB6.out
def sF (x:IV) (s:Nat):Nat->List (Int × Bool)->List (List (Int × Bool))
 |0,l=>[l]
 |n+1,l=>(NV x s l).flatMap fun v=>sF x s n (l ++ [v])
abbrev wts:List TypeId:=[32,105]
abbrev funA (gt go gx gs gw:Nat):Value:=.func (Fn.func 88) #[] #[.pointer (some ⟨gt,0,none⟩),.pointer (some ⟨go,0,none⟩),.pointer (some ⟨gx,0,none⟩),.pointer (some ⟨gs,0,none⟩),.pointer (some ⟨gw,0,none⟩)]
structure AllC (m:IM) (s total gt go gx gs gw:Nat) (w0 w:World):Prop where
 t:w.heap[gt]? = some (.cells #[.int .i64 (total:Int)] 3)
 x:w.heap[gx]? = some (.cells (iQ m) 30)
 s:w.heap[gs]? = some (.cells #[.int .i64 (s:Int)] 3)
 f:w.heap[gw]? = some (.cells #[funA gt go gx gs gw] 137)
 bel:Below w0.heap.size w0 w
theorem AllC.fr {m:IM} {s total gt go gx gs gw:Nat} {w0 w w':World} (h:AllC m s total gt go gx gs gw w0 w) (hf:FR w0.heap.size wts w w'):AllC m s total gt go gx gs gw w0 w' :=
 ⟨hf.kt.row _ _ _ _ h.t (by decide),hf.kt.row _ _ _ _ h.x (by decide),hf.kt.row _ _ _ _ h.s (by decide),hf.kt.row _ _ _ _ h.f (by decide),h.bel.trans hf.bel⟩
def AllS (go Bs:Nat) (ms:List SM) (w:World):Prop:=∃ (A:Option Addr) (c:Nat),w.heap[go]? = some (.cells #[.slice A ms.length c] 105)/\Bl w Bs A c ms
theorem AllS.below {go Bs:Nat} {ms:List SM} {w w':World} (h:AllS go Bs ms w) (hb:Below w.heap.size w w'):AllS go Bs ms w':=by
 obtain ⟨A,c,h1,h2⟩:=h;exact ⟨A,c,rK h1 hb,h2.below hb⟩
def WalkE (m:IM) (s go:Nat) (w0:World) (rem:Nat) (l:List (Int × Bool)) (ms:List SM) (w:World) (e:Ending) (w':World):Prop:=∃ (b:Bool) (ms':List SM),e=.returned (.bool b)/\AllS go w0.heap.size ms' w'/\FR w0.heap.size wts w w'/\(b=true->ms'.map (·.l)=ms.map (·.l) ++ sF m.v s rem l/\ms'.length<=8192)
theorem takeF {α β:Type} {l:List α} {k:Nat} (h:k<l.length) (f:α->List β):(l.take (k+1)).flatMap f=(l.take k).flatMap f ++ f l[k]:=by
 rw [Ts h,List.flatMap_append];simp
theorem ownNone {w:World} {Bs sz n c:Nat} {e:TypeId} {A:Option Addr} {xs:List Value} (h:OR w Bs e sz A n c xs) (hA:A=none):n=0:=by
 rcases h.2 with ⟨hv,hn⟩ | ⟨g,cap,cur,hv,_⟩
 ·exact hn
 ·injection hv with hv _ _
  rw [hA] at hv;cases hv
theorem swalk_any (m:IM) (s total gt go gx gs gw:Nat) (w0:World) (hm:IA w0 m) (hml:m.ords.length<=3) (hs:s<1048576) (hgo:w0.heap.size<=go) (htot:total<=100) :
  ∀ (rem:Nat) (l:List (Int × Bool)) (A:Option Addr) (c:Nat) (w:World) (ms:List SM),l.length+rem=total->AllC m s total gt go gx gs gw w0 w->AllS go w0.heap.size ms w->ms.length<=8192->VO w w0.heap.size A c l ->
   Calls Tryz.prog 88 #[.slice A l.length c,.pointer (some ⟨gt,0,none⟩),.pointer (some ⟨go,0,none⟩),.pointer (some ⟨gx,0,none⟩),.pointer (some ⟨gs,0,none⟩),.pointer (some ⟨gw,0,none⟩)] w (WalkE m s go w0 rem l ms w)
 |0,l,A,c,w,ms,hlen,hC,hS,hms,hl=>by
  obtain ⟨A2,c2,hgo2,hso⟩:=hS;have HC:=hid hC;have HG:=hid hgo2;have HSO:=hid hso;have HL:=hid hl;have t0:=CX hC.t 0 (.int .i64 (total:Int)) rfl;have o0:=CX hgo2 0 (.slice A2 ms.length c2) rfl;have HLEN:=hid hlen;have hlb:=iB (show (l.length:Int)=(total:Int) by omega);clear hC hgo2 hso hl hlen;have HSZ:=hid HC.out.bel.size;go_enter Tryz.func88,Tryz.ntmps88
  (try simp only [Bm]);go_upto_region 2 with fail;go_upto_region 3 with (at_builtin;go_loud (refine wp_seq el_seq rfl _ _ rfl rfl rfl rfl w0.heap.size A2 ms.length c2 ms rfl w ⟨A,c,l⟩ rfl HSO.out HL.out rfl (by omega) HSZ.out ?_;intro A4 c4 w4 hown4 hb4 hkp4;have hg4:=hkp4.row HG.out (HSO.out.row.far HG.out (by decide));have o4:=CX hg4 0 (.slice A2 ms.length c2) rfl;have f4:=fz hg4 0))
  have HF:=hid (show FR w0.heap.size wts w (w4.setCell ⟨go,0,none⟩ (.slice A4 (ms.length+1) c4)) from ⟨hb4.setCell (p:=⟨go,0,none⟩) hgo _,(KT.kpa hkp4 HSO.out.row (by decide)).trans (KT.store hg4 (by decide))⟩);have HG5:=hid (show (w4.setCell ⟨go,0,none⟩ (.slice A4 (ms.length+1) c4)).heap[go]? = some (.cells #[.slice A4 (ms.length+1) c4] 105) by rw [Hp hg4];rfl)
  have HS5:=hid (show Bl (w4.setCell ⟨go,0,none⟩ (.slice A4 (ms.length+1) c4)) w0.heap.size A4 c4 (ms ++ [⟨A,c,l⟩]) from ⟨OR.keep hown4.row fun b hA=>Below.heap_setCell _ _ _ _ (fun e=>by
   subst hA;simp only at e;subst e;exact hown4.row.far hg4 (by decide) 0 none rfl),fun k hk=>OR.keptT (hown4.each k hk) (KT.store (ts:=wts) hg4 (by decide)) (by decide)⟩)
  clear o4 f4 hg4 hown4 hb4 hkp4 o0 t0;(try simp only [Act.put]);generalize w4.setCell ⟨go,0,none⟩ (.slice A4 (ms.length+1) c4)=w5 at *;have o5:=CX HG5.out 0 (.slice A4 (ms.length+1) c4) rfl;go_wp2_with fail;go_ret;refine ⟨_,ms ++ [⟨A,c,l⟩],rfl,⟨A4,c4,by rw [sL];exact HG5.out,HS5.out⟩,HF.out,fun h=>⟨?_,?_⟩⟩
  ·rw [List.map_append];rfl
  ·rw [sL]
   simp at h
   omega
 |rem+1,l,A,c,w,ms,hlen,hC,hS,hms,hl=>by
  have HC:=hid hC;have HS:=hid hS;have HL:=hid hl;have hcp:=OR.cap hl;have HCP:=hid hcp;have HAN:=hid (fun h=>ownNone hl h);have t0:=CX hC.t 0 (.int .i64 (total:Int)) rfl;have s0:=CX hC.s 0 (.int .i64 (s:Int)) rfl;have HLEN:=hid hlen;have hlb:=ib (show ¬ (l.length:Int)=(total:Int) by omega);have HSZ:=hid hC.bel.size;have hl100:l.length<=100:=by omega
  have HNX:=hid (snext_any m s l A c w (hm.below hC.bel) hml hs (OR.cells hl) hcp);have HIH:=hid (swalk_any m s total gt go gx gs gw w0 hm hml hs hgo htot rem);unfold maxLen at hcp;clear hC hS hl hlen;go_enter Tryz.func88,Tryz.ntmps88;(try simp only [Bm]);go_wp2_with (refine lr HC.out.x Tryz.underlying30 ?_)
  refine HNX.out.mono ?_;rintro e w1 ⟨NA,nc,rfl,hown,hb1⟩;have HNO:=hid (hown.mono HSZ.out);have hnp:=OR.cap hown;have HF1:=hid (show FR w0.heap.size wts w w1 from FR.below hb1 HSZ.out);have HS1:=hid (HS.out.below hb1);have HEQ:=hid (show sF m.v s (rem+1) l=(NV m.v s l).flatMap fun v=>sF m.v s rem (l ++ [v]) from rfl);obtain ⟨nx,hnx⟩:∃ nx,nx=NV m.v s l:=⟨_,rfl⟩
  rw [<- hnx] at HNO hnp HEQ;rw [<- hnx];unfold maxLen at hnp;clear hown hb1 t0 s0 hnx HNX HS;go_wp2_with fail
  go_loopw [26] (fun j wr=>∃ (k:Nat) (ms':List SM),k<=nx.length/\j=.int .i64 k/\AllS go w0.heap.size ms' wr/\FR w0.heap.size wts w wr/\FR w0.heap.size wts w1 wr/\ms'.map (·.l)=ms.map (·.l) ++ (nx.take k).flatMap (fun v=>sF m.v s rem (l ++ [v]))/\ms'.length<=8192) (fun j _=>nx.length - (intOf j).toNat)
  case atStart=>exact ⟨0,ms,Nat.zero_le _,rfl,HS1.out,HF1.out,FR.refl _ _ _,by simp,hms⟩
  case round =>
   clear HS1 HF1 hms;obtain ⟨k,ms',hk,rfl,hS,hF,hF1,heq,hms⟩:=hrel;have HS:=hid hS;have HF:=hid hF;have HF1:=hid hF1;have HE:=hid heq;clear hS hF hF1 heq;by_cases hlt:k<nx.length
   ·have hlt1:(k:Int)<(nx.length:Int):=by omega
    have HNR:=hid (HNO.out.keptT HF1.out.kt (by decide));obtain ⟨g3,o3,hA3,hg3,hx3⟩:=eP vC (by decide) (OR.cells HNR.out) (by omega);have x0:=hx3 k hlt 0 _ rfl;have x1:=hx3 k hlt 1 _ rfl;rw [Nat.add_zero] at x0;have HT:=hid (takeF hlt (fun v=>sF m.v s rem (l ++ [v])));rw [hA3];clear hx3 hA3 HNR;obtain ⟨y,hy⟩:∃ y,y=nx[k]:=⟨_,rfl⟩
    rw [<- hy] at x0 x1 HT;clear hy;obtain ⟨n7,p7⟩:=Na wr (.cells #[.int .i64 y.1,.bool y.2] 92);go_upto_region 7 with fail;generalize hw7:wr.alloc (.cells #[.int .i64 y.1,.bool y.2] 92)=w7 at *;clear hw7;have HSR:=hid (Nat.le_trans HSZ.out HF.out.kt.size);have HF7:=hid (HF.out.trans (FR.below (ts:=wts) n7 HSR.out));have HF17:=hid (HF1.out.trans (FR.below (ts:=wts) n7 HSR.out))
    have HS7:=hid (HS.out.below n7);have HP7:=hid p7;have HC7:=hid (HC.out.fr HF7.out);have HL7:=hid (HL.out.keptT HF7.out.kt (by decide));have HSZ7:=hid (Nat.le_trans HSR.out n7.size);obtain ⟨g7,hg7⟩:∃ g7,g7=wr.heap.size:=⟨_,rfl⟩
    rw [<- hg7] at HP7;rw [<- hg7];clear n7 p7 hg7 x0 x1 HF HF1 HS;have hd:Below w7.heap.size w7 w7.drew:=(Below.refl _ w7).drew;have hfd:FR w0.heap.size wts w7 w7.drew:=FR.below hd HSZ7.out;have hS0:(fun w'=>FR w0.heap.size wts w7 w') w7.drew:=hfd;refine wp_region_held_drew (S:=fun w'=>FR w0.heap.size wts w7 w') (by kernel_rfl) hS0 (fun _=>?_)
    refine tq 0 (fun w hSw=>CX (hSw.kt.row _ _ _ _ HC7.out.f (by decide)) 0 (funA gt go gx gs gw) rfl) ?_;refine td 1 ?_;refine tkr 3 Tryz.underlying92 (fun w hSw=>hSw.kt.row _ _ _ _ HP7.out (by decide)) ?_;(try simp only [Act.put,P1,pu,P3])
    refine wpAnyH_ready (rs:=[2,4]) (by kernel_rfl) (by simp) (AllReadyH.cons (by simp only [List.getElem?_toArray,List.getElem?_cons_succ,List.getElem?_cons_zero];rfl) (fun K hK=>?_) (AllReadyH.cons (by simp only [List.getElem?_toArray,List.getElem?_cons_succ,List.getElem?_cons_zero];rfl) (fun K hK=>?_) AllReadyH.nil))
    ·skip
     obtain ⟨n8,p8⟩:=Na w7 (.cells #[.int .i64 y.1,.bool y.2] 92);have HFA:FR w0.heap.size wts w7 (w7.alloc (.cells #[.int .i64 y.1,.bool y.2] 92)).drew:=FR.below n8.drew HSZ7.out;have HLA:VO (w7.alloc (.cells #[.int .i64 y.1,.bool y.2] 92)).drew w0.heap.size A c l:=OR.keptT HL7.out HFA.kt (by decide)
     have HSA:AllS go w0.heap.size ms' (w7.alloc (.cells #[.int .i64 y.1,.bool y.2] 92)).drew:=HS7.out.below n8.drew;have HSZA:w0.heap.size<=(w7.alloc (.cells #[.int .i64 y.1,.bool y.2] 92)).drew.heap.size:=Nat.le_trans HSZ7.out n8.drew.size
     have HUX:∀ j u,(VC y)[j]? = some u->(w7.alloc (.cells #[.int .i64 y.1,.bool y.2] 92)).drew.cell? ((⟨w7.heap.size,0,none⟩:Addr).add j)=some u:=fun j u hj=>by
      rw [Go.WideShapes.add_plain];exact CX (w:=(w7.alloc (.cells #[.int .i64 y.1,.bool y.2] 92)).drew) p8 (0+j) u (by rw [Nat.zero_add];simpa [VC] using hj)
     have HAHID:=hid (And.intro HFA (And.intro HLA (And.intro HSA (And.intro HSZA HUX))));clear n8 p8 HFA HLA HSA HSZA HUX;go_simp;refine (cA A l.length c _ HCP.out).mono ?_;rintro e w8 ⟨rfl,hw8⟩;subst hw8;refine hK.out _ _ (hfd) (fun _=>?_);clear hK K;(try simp only [Act.put,P1,pu,P3]);refine one 4 (fun K hK=>?_);go_simp;refine hK.out _ _ (HAHID.out.1) (fun _=>?_);clear hK K
     (try simp only [Act.put,P1,pu,P3]);obtain ⟨HFA,HLA,HSA,HSZA,HUX⟩:=HAHID.out;refine one 5 (fun K hK=>?_);refine Wc ep _ _ rfl A l.length (l.flatMap VC) rfl (OR.cells HLA) (by rw [fl VC vC]) HAN.out ⟨w7.heap.size,0,none⟩ (VC y) rfl rfl HUX (by unfold maxLen;omega) (by omega) ?_;intro A9 c9 w9 hown9 hb9
     have HV9:=hid (show VO w9 w0.heap.size A9 c9 (l ++ [y]) from by show OR _ _ _ _ _ _ _ _;rw [sL,<- Fs];exact hown9.mono HSZA);have HF9:=hid (HFA.trans (FR.below (ts:=wts) hb9 HSZA));have HS9:=hid (HSA.below hb9);refine hK.out _ _ (HF9.out) (fun _=>?_);clear hK K;(try simp only [Act.put,P1,pu,P3]);clear HFA HLA HSA HSZA HUX;refine one 6 (fun K hK=>?_);go_simp
     have hlen9:(l ++ [y]).length=l.length+1:=sL l y;have hih:=HIH.out (l ++ [y]) A9 c9 w9 ms' (by rw [hlen9];have:=HLEN.out;omega) (HC7.out.fr HF9.out) HS9.out hms HV9.out;rw [hlen9] at hih;refine hih.mono ?_;rintro e w10 ⟨b,ms2,rfl,hs10,hf10,hyes⟩;have HF10:=hid (HF9.out.trans hf10);refine hK.out _ _ (HF10.out) (fun _=>?_);clear hK K;refine td 7 ?_;(try simp only [Act.put,P1,pu,P3])
     refine wpAnyH_done (by kernel_rfl) ?_ _;clear hlen9 hih;have HS10:=hid hs10;have HYES:=hid hyes;clear hs10 hyes hf10
     cases b with
     |true =>
      obtain ⟨hm1,hm2⟩:=HYES.out rfl;have HN:=hid (show ms2.map (·.l)=ms.map (·.l) ++ (nx.take (k+1)).flatMap (fun v=>sF m.v s rem (l ++ [v])) by rw [hm1,HE.out,HT.out,List.append_assoc]);clear hm1 HYES;go_wp2_with fail;go_roundw
      case rel=>exact ⟨k+1,ms2,by omega,by go_num,HS10.out,HF7.out.trans HF10.out,HF17.out.trans HF10.out,HN.out,hm2⟩
      case measure=>simp [intOf];omega
     |false =>
      clear HYES;go_wp2_with fail;go_ret;exact ⟨false,ms2,rfl,HS10.out,HF7.out.trans HF10.out,fun h=>absurd h (by decide)⟩
    ·skip
     obtain ⟨n8,p8⟩:=Na w7 (.cells #[.int .i64 y.1,.bool y.2] 92);have HFA:FR w0.heap.size wts w7 (w7.alloc (.cells #[.int .i64 y.1,.bool y.2] 92)).drew:=FR.below n8.drew HSZ7.out;have HLA:VO (w7.alloc (.cells #[.int .i64 y.1,.bool y.2] 92)).drew w0.heap.size A c l:=OR.keptT HL7.out HFA.kt (by decide)
     have HSA:AllS go w0.heap.size ms' (w7.alloc (.cells #[.int .i64 y.1,.bool y.2] 92)).drew:=HS7.out.below n8.drew;have HSZA:w0.heap.size<=(w7.alloc (.cells #[.int .i64 y.1,.bool y.2] 92)).drew.heap.size:=Nat.le_trans HSZ7.out n8.drew.size
     have HUX:∀ j u,(VC y)[j]? = some u->(w7.alloc (.cells #[.int .i64 y.1,.bool y.2] 92)).drew.cell? ((⟨w7.heap.size,0,none⟩:Addr).add j)=some u:=fun j u hj=>by
      rw [Go.WideShapes.add_plain];exact CX (w:=(w7.alloc (.cells #[.int .i64 y.1,.bool y.2] 92)).drew) p8 (0+j) u (by rw [Nat.zero_add];simpa [VC] using hj)
     have HAHID:=hid (And.intro HFA (And.intro HLA (And.intro HSA (And.intro HSZA HUX))));clear n8 p8 HFA HLA HSA HSZA HUX;go_simp;refine hK.out _ _ (HAHID.out.1) (fun _=>?_);clear hK K;(try simp only [Act.put,P1,pu,P3]);refine one 2 (fun K hK=>?_);go_simp;refine (cA A l.length c _ HCP.out).mono ?_;rintro e w8 ⟨rfl,hw8⟩;subst hw8;refine hK.out _ _ (HAHID.out.1) (fun _=>?_);clear hK K
     (try simp only [Act.put,P1,pu,P3]);obtain ⟨HFA,HLA,HSA,HSZA,HUX⟩:=HAHID.out;refine one 5 (fun K hK=>?_);refine Wc ep _ _ rfl A l.length (l.flatMap VC) rfl (OR.cells HLA) (by rw [fl VC vC]) HAN.out ⟨w7.heap.size,0,none⟩ (VC y) rfl rfl HUX (by unfold maxLen;omega) (by omega) ?_;intro A9 c9 w9 hown9 hb9
     have HV9:=hid (show VO w9 w0.heap.size A9 c9 (l ++ [y]) from by show OR _ _ _ _ _ _ _ _;rw [sL,<- Fs];exact hown9.mono HSZA);have HF9:=hid (HFA.trans (FR.below (ts:=wts) hb9 HSZA));have HS9:=hid (HSA.below hb9);refine hK.out _ _ (HF9.out) (fun _=>?_);clear hK K;(try simp only [Act.put,P1,pu,P3]);clear HFA HLA HSA HSZA HUX;refine one 6 (fun K hK=>?_);go_simp
     have hlen9:(l ++ [y]).length=l.length+1:=sL l y;have hih:=HIH.out (l ++ [y]) A9 c9 w9 ms' (by rw [hlen9];have:=HLEN.out;omega) (HC7.out.fr HF9.out) HS9.out hms HV9.out;rw [hlen9] at hih;refine hih.mono ?_;rintro e w10 ⟨b,ms2,rfl,hs10,hf10,hyes⟩;have HF10:=hid (HF9.out.trans hf10);refine hK.out _ _ (HF10.out) (fun _=>?_);clear hK K;refine td 7 ?_;(try simp only [Act.put,P1,pu,P3])
     refine wpAnyH_done (by kernel_rfl) ?_ _;clear hlen9 hih;have HS10:=hid hs10;have HYES:=hid hyes;clear hs10 hyes hf10
     cases b with
     |true =>
      obtain ⟨hm1,hm2⟩:=HYES.out rfl;have HN:=hid (show ms2.map (·.l)=ms.map (·.l) ++ (nx.take (k+1)).flatMap (fun v=>sF m.v s rem (l ++ [v])) by rw [hm1,HE.out,HT.out,List.append_assoc]);clear hm1 HYES;go_wp2_with fail;go_roundw
      case rel=>exact ⟨k+1,ms2,by omega,by go_num,HS10.out,HF7.out.trans HF10.out,HF17.out.trans HF10.out,HN.out,hm2⟩
      case measure=>simp [intOf];omega
     |false =>
      clear HYES;go_wp2_with fail;go_ret;exact ⟨false,ms2,rfl,HS10.out,HF7.out.trans HF10.out,fun h=>absurd h (by decide)⟩
   ·have hlt1:¬ (k:Int)<(nx.length:Int):=by omega
    have HN:=hid (show ms'.map (·.l)=ms.map (·.l) ++ sF m.v s (rem+1) l by rw [HE.out,HEQ.out,List.take_of_length_le (by omega)]);go_wp2_with fail;go_ret;exact ⟨true,ms',rfl,HS.out,HF.out,fun _=>⟨HN.out,hms⟩⟩
theorem wrap_small {n:Int} (h0:0<=n) (h1:n<=1000000000):IntKind.i64.wrap n=n:=by
 unfold IntKind.wrap;simp [IntKind.signed,IntKind.bits]
 omega
def Aw (x:IV) (s k:Nat):Nat:=((List.range k).map fun i:Nat=>if s.testBit i then (vO x (i:Int)).length else 0).sum
def Ad (x:IV) (s:Nat):Nat:=Aw x s x.ords.length
theorem tK (x:IV) (s k:Nat):Aw x s (k+1)=Aw x s k+if s.testBit k then (vO x (k:Int)).length else 0:=by
 unfold Aw;rw [List.range_succ,List.map_append,List.sum_append];simp
theorem totK_le (x:IV) (s:Nat):∀ k,Aw x s k<=2*k
 |0=>by simp [Aw]
 |k+1=>by
  rw [tK];have:=totK_le x s k;have:=vf x (k:Int);split <;> omega
def AllE (x:IV) (s:Nat) (w:World) (e:Ending) (w':World):Prop:=∃ (A:Option Addr) (c:Nat) (ms:List SM) (k:Int),e=.returned (.tuple #[.slice A ms.length c,.int .i64 k])/\Bl w' w.heap.size A c ms/\ms.length<=8192 /\
 (k=0->(AP x s->ms.map (·.l)=sF x s (Ad x s) [])/\(¬ AP x s->ms=[]))/\(k=0∨k=4)/\Below w.heap.size w w'
theorem AllE.bad {x:IV} {s:Nat} {w w':World} (h:¬ AP x s) (hb:Below w.heap.size w w'):AllE x s w (.returned (.tuple #[.slice none 0 0,.int .i64 0])) w':=⟨none,0,[],0,rfl,⟨OR.nil _ _ _ _,fun m hm=>absurd hm (by simp)⟩,by simp,fun _=>⟨fun h2=>absurd h2 h,fun _=>rfl⟩,.inl rfl,hb⟩
theorem AllE.many {x:IV} {s:Nat} {w w':World} (hb:Below w.heap.size w w'):AllE x s w (.returned (.tuple #[.slice none 0 0,.int .i64 4])) w':=⟨none,0,[],4,rfl,⟨OR.nil _ _ _ _,fun m hm=>absurd hm (by simp)⟩,by simp,fun h=>absurd h (by decide),.inr rfl,hb⟩
theorem sall_any (m:IM) (s:Nat) (w:World) (hm:IA w m) (hml:m.ords.length<=3) (hs:s<2 ^ m.ords.length) (hs0:0<s) :
  Calls Tryz.prog 37 #[iA m,.int .i64 s] w (AllE m.v s w):=by
 obtain ⟨k1,k2,kb⟩:=aL w (.cells (iQ m) 30) (.cells #[.int .i64 (s:Int)] 3);have HB:=hid kb;have HK1:=hid k1;have HK2:=hid k2;have hs8:s<8:=Nat.lt_of_lt_of_le hs (Nat.pow_le_pow_right (n:=2) (by decide) hml);have hs20:s<1048576:=by omega
 have HFB:=hid (fun (w':World) (hb:Below w.heap.size w w')=>forbid_any m s w' (hm.below hb) hml hs);have HVI:=hid (fun (i:Int) (w':World) (hb:Below w.heap.size w w')=>Oa m i w' (hm.ords.below hb) hm.ol hml);have HM:=hid (fun (w':World) (hb:Below w.heap.size w w')=>hm.below hb);have HNV:=hid (oL m);have hol:=hm.ol
 have hz:(s:Int) / 2 ^ m.ords.length=0:=by
  have:(s:Int) / 2 ^ m.ords.length=((s / 2 ^ m.ords.length:Nat):Int):=by rw [Int.natCast_ediv,Int.natCast_pow];rfl
  rw [this,Nat.div_eq_of_lt hs];rfl
 have hs0b:=ib (show ¬ (s:Int)=0 by omega);unfold maxLen at hol;clear hm k1 k2 kb hs;go_enter Tryz.func37,Tryz.ntmps37;(try simp only [Bm]);go_upto_region 1 with fail;rw [iq];generalize (w.alloc (.cells (iQ m) 30)).alloc (.cells #[.int .i64 (s:Int)] 3)=wa at *;obtain ⟨h1,hh1⟩:∃ h1,h1=w.heap.size:=⟨_,rfl⟩
 obtain ⟨h2,hh2⟩:∃ h2,h2=w.heap.size+1:=⟨_,rfl⟩
 rw [<- hh2] at HK2;rw [<- hh1] at HK1;rw [<- hh2,<- hh1];clear hh1 hh2;have y3:=CX HK1.out 3 (.slice m.oA m.ords.length m.oc) rfl;have y0:=CX HK2.out 0 (.int .i64 (s:Int)) rfl;have z0:=CX HK1.out 0 (.slice m.pA m.places.length m.pc) rfl;have z1:=CX HK1.out 1 (.slice m.aA m.arcs.length m.ac) rfl;have z2:=CX HK1.out 2 (.slice m.tA m.types.length m.tc) rfl
 have z4:=CX HK1.out 4 (.slice m.xA m.apart.length m.xc) rfl;have z5:=CX HK1.out 5 (.slice m.bA m.before.length m.bc) rfl;go_wp2_with fail;refine (HFB.out wa HB.out).mono ?_;rintro e w1 ⟨b,rfl,hb,hb1⟩;have HFF:=hid hb;have HB1:=hid (bL HB.out hb1);have HK11:=hid (rK HK1.out hb1);have HK21:=hid (rK HK2.out hb1)
 clear hb hb1 HK1 HK2 HB y3 y0 z0 z1 z2 z4 z5 HFB
 cases b with
 |true =>
  have HNA:=hid (show ¬ AP m.v s from fun h=>by have:=HFF.out.2 h;cases this);clear HFF;go_wp2_with fail;go_ret2;exact AllE.bad HNA.out HB1.out
 |false =>
  have HA:=hid (HFF.out.1 rfl);clear HFF;obtain ⟨n5,p5⟩:=Na w1 (.cells #[.int .i64 0] 3);go_upto_region 6 with fail;generalize hw2:w1.alloc (.cells #[.int .i64 0] 3)=w2 at *;clear hw2;have HB2:=hid (bL HB1.out n5);have HK12:=hid (rK HK11.out n5);have HK22:=hid (rK HK21.out n5);have HT2:=hid p5;obtain ⟨gt,hgt⟩:∃ gt,gt=w1.heap.size:=⟨_,rfl⟩
  rw [<- hgt] at HT2;rw [<- hgt];have HGT:=hid (show w.heap.size<=gt by rw [hgt];exact HB1.out.size);have HNE:=hid (show h1≠gt/\h2≠gt from ⟨by rw [hgt];exact Nat.ne_of_lt (lh HK11.out),by rw [hgt];exact Nat.ne_of_lt (lh HK21.out)⟩);clear n5 p5 hgt HB1 HK11 HK21;have y3:=CX HK12.out 3 (.slice m.oA m.ords.length m.oc) rfl;go_wp2_with fail;clear y3
  go_loopw [30] (fun j wr=>∃ i:Nat,i<=m.ords.length/\j=.int .i64 i/\wr.heap[gt]? = some (.cells #[.int .i64 (Aw m.v s i:Int)] 3)/\wr.heap[h1]? = some (.cells (iQ m) 30)/\wr.heap[h2]? = some (.cells #[.int .i64 (s:Int)] 3)/\Below w.heap.size w wr) (fun j _=>m.ords.length - (intOf j).toNat)
  case atStart=>exact ⟨0,Nat.zero_le _,rfl,HT2.out,HK12.out,HK22.out,HB2.out⟩
  case round =>
   clear HT2 HK12 HK22 HB2;obtain ⟨i,hi,rfl,hrt,hr1,hr2,hbel⟩:=hrel;have HRT:=hid hrt;have HR1:=hid hr1;have HR2:=hid hr2;have HB:=hid hbel;have HSU:=hid (tK m.v s i);have htl:=totK_le m.v s i;have hvf:=vf m.v i;clear hrt hr1 hr2 hbel;by_cases hlt:i<m.ords.length
   ·have hlt1:(i:Int)<(m.ords.length:Int):=by omega
    have HSA:=hid (shr_and (s:=s) (i:=i) hs20);have hd0:0<=(s:Int) / 2 ^ i:=Int.ediv_nonneg (by omega) (Int.pow_nonneg (by omega));have y0:=CX HR2.out 0 (.int .i64 (s:Int)) rfl
    cases htb:s.testBit i with
    |false =>
     have hsa:=HSA.out;rw [htb,if_neg (by decide)] at hsa;have HE:=hid (show Aw m.v s (i+1)=Aw m.v s i by rw [HSU.out,htb];simp);clear HSA htb HSU;go_wp2_with fail;go_roundw
     case rel=>exact ⟨i+1,by omega,by go_num,by rw [HE.out];exact HRT.out,HR1.out,HR2.out,HB.out⟩
     case measure=>simp [intOf];omega
    |true =>
     have hsa:=HSA.out;rw [htb,if_pos rfl] at hsa;have HE:=hid (show Aw m.v s (i+1)=Aw m.v s i+(vO m.v (i:Int)).length by rw [HSU.out,htb];rfl);clear HSA htb HSU;obtain ⟨tot,htot⟩:∃ tot,tot=Aw m.v s i:=⟨_,rfl⟩
     rw [<- htot] at HRT HE htl;clear htot;go_upto_region 10 with fail;clear y0 hsa hd0;have hd:Below wr.heap.size wr wr.drew:=(Below.refl _ wr).drew;have hS0:(fun w'=>w'.heap[h1]? = some (.cells (iQ m) 30)/\w'.heap[h2]? = some (.cells #[.int .i64 (s:Int)] 3)/\Below w.heap.size w w') wr.drew:=⟨HR1.out,HR2.out,HB.out.drew⟩
     refine wp_region_held_drew (S:=fun w'=>w'.heap[h1]? = some (.cells (iQ m) 30)/\w'.heap[h2]? = some (.cells #[.int .i64 (s:Int)] 3)/\Below w.heap.size w w') (by kernel_rfl) hS0 (fun _=>?_);refine td 1 ?_;refine tq 2 (fun w hSw=>CX hSw.1 3 (.slice m.oA m.ords.length m.oc) rfl) ?_;refine td 3 ?_;(try simp only [Act.put,P1,pu,P3])
     refine wpAnyH_ready (rs:=[0,4]) (by kernel_rfl) (by simp) (AllReadyH.cons (by simp only [List.getElem?_toArray,List.getElem?_cons_zero];rfl) (fun K hK=>?_) (AllReadyH.cons (by simp only [List.getElem?_toArray,List.getElem?_cons_succ,List.getElem?_cons_zero];rfl) (fun K hK=>?_) AllReadyH.nil))
     ·skip
      have q0:=CX (w:=wr.drew) HRT.out 0 (.int .i64 (tot:Int)) rfl;go_simp;clear q0;refine hK.out _ _ (by assumption) (fun _=>?_);clear hK K;(try simp only [Act.put,P1,pu,P3]);refine one 4 (fun K hK=>?_);go_simp;refine (HVI.out (i:Int) wr.drew HB.out.drew).mono ?_;rintro e w7 ⟨VA,vc,rfl,_,hb7⟩;have HRT7:=hid (rK (w:=wr.drew) HRT.out hb7)
      have HS7:=hid (And.intro (rK (w:=wr.drew) HR1.out hb7) (And.intro (rK (w:=wr.drew) HR2.out hb7) (bL HB.out.drew hb7)));refine hK.out _ _ (HS7.out) (fun _=>?_);clear hK K;(try simp only [Act.put,P1,pu,P3]);obtain ⟨vl,hvl⟩:∃ vl,vl=(vO m.v (i:Int)).length:=⟨_,rfl⟩
      rw [<- hvl] at HE hvf;rw [<- hvl];clear hvl;refine td 5 ?_;(try simp only [Act.put,P1,pu,P3]);refine Tv 6 (v:=.int .i64 ((tot:Int)+(vl:Int))) ?_ ?_
      ·(intro w hSw;have e1:IntKind.i64.wrap ((tot:Int)+(vl:Int))=(tot:Int)+(vl:Int):=wrap_small (by omega) (by omega);go_simp;first | done | rfl | (rw [e1]) | (simp [e1]))
      (try simp only [Act.put,P1,pu,P3]);refine one 7 (fun K hK=>?_);have q0:=CX HRT7.out 0 (.int .i64 (tot:Int)) rfl;have f0:=fz HRT7.out 0;go_simp;clear q0 f0;have HRT8:=hid (show (w7.setCell ⟨gt,0,none⟩ (.int .i64 ((tot:Int)+(vl:Int)))).heap[gt]? = some (.cells #[.int .i64 ((tot:Int)+(vl:Int))] 3) by rw [Hp HRT7.out];rfl)
      have HS8:=hid (show (w7.setCell ⟨gt,0,none⟩ (.int .i64 ((tot:Int)+(vl:Int)))).heap[h1]? = some (.cells (iQ m) 30)/\(w7.setCell ⟨gt,0,none⟩ (.int .i64 ((tot:Int)+(vl:Int)))).heap[h2]? = some (.cells #[.int .i64 (s:Int)] 3)/\Below w.heap.size w (w7.setCell ⟨gt,0,none⟩ (.int .i64 ((tot:Int)+(vl:Int)))) from ⟨setOther HS7.out.1 HNE.out.1,setOther HS7.out.2.1 HNE.out.2,HS7.out.2.2.setCell (p:=⟨gt,0,none⟩) HGT.out _⟩)
      refine hK.out _ _ (HS8.out) (fun _=>?_);clear hK K;(try simp only [Act.put]);refine wpAnyH_done (by kernel_rfl) ?_ _;go_wp2_with fail;go_roundw
      case rel=>exact ⟨i+1,by omega,by go_num,by rw [HRT8.out,HE.out];rfl,HS8.out.1,HS8.out.2.1,HS8.out.2.2⟩
      case measure=>simp [intOf];omega
     ·skip
      go_simp;refine (HVI.out (i:Int) wr.drew HB.out.drew).mono ?_;rintro e w7 ⟨VA,vc,rfl,_,hb7⟩;have HRT7:=hid (rK (w:=wr.drew) HRT.out hb7);have HS7:=hid (And.intro (rK (w:=wr.drew) HR1.out hb7) (And.intro (rK (w:=wr.drew) HR2.out hb7) (bL HB.out.drew hb7)));refine hK.out _ _ (HS7.out) (fun _=>?_);clear hK K;(try simp only [Act.put,P1,pu,P3])
      obtain ⟨vl,hvl⟩:∃ vl,vl=(vO m.v (i:Int)).length:=⟨_,rfl⟩
      rw [<- hvl] at HE hvf;rw [<- hvl];clear hvl;refine td 5 ?_;(try simp only [Act.put,P1,pu,P3]);refine one 0 (fun K hK=>?_);have q0:=CX HRT7.out 0 (.int .i64 (tot:Int)) rfl;go_simp;clear q0;refine hK.out _ _ (HS7.out) (fun _=>?_);clear hK K;(try simp only [Act.put,P1,pu,P3]);refine Tv 6 (v:=.int .i64 ((tot:Int)+(vl:Int))) ?_ ?_
      ·(intro w hSw;have e1:IntKind.i64.wrap ((tot:Int)+(vl:Int))=(tot:Int)+(vl:Int):=wrap_small (by omega) (by omega);go_simp;first | done | rfl | (rw [e1]) | (simp [e1]))
      (try simp only [Act.put,P1,pu,P3]);refine one 7 (fun K hK=>?_);have q0:=CX HRT7.out 0 (.int .i64 (tot:Int)) rfl;have f0:=fz HRT7.out 0;go_simp;clear q0 f0;have HRT8:=hid (show (w7.setCell ⟨gt,0,none⟩ (.int .i64 ((tot:Int)+(vl:Int)))).heap[gt]? = some (.cells #[.int .i64 ((tot:Int)+(vl:Int))] 3) by rw [Hp HRT7.out];rfl)
      have HS8:=hid (show (w7.setCell ⟨gt,0,none⟩ (.int .i64 ((tot:Int)+(vl:Int)))).heap[h1]? = some (.cells (iQ m) 30)/\(w7.setCell ⟨gt,0,none⟩ (.int .i64 ((tot:Int)+(vl:Int)))).heap[h2]? = some (.cells #[.int .i64 (s:Int)] 3)/\Below w.heap.size w (w7.setCell ⟨gt,0,none⟩ (.int .i64 ((tot:Int)+(vl:Int)))) from ⟨setOther HS7.out.1 HNE.out.1,setOther HS7.out.2.1 HNE.out.2,HS7.out.2.2.setCell (p:=⟨gt,0,none⟩) HGT.out _⟩)
      refine hK.out _ _ (HS8.out) (fun _=>?_);clear hK K;(try simp only [Act.put]);refine wpAnyH_done (by kernel_rfl) ?_ _;go_wp2_with fail;go_roundw
      case rel=>exact ⟨i+1,by omega,by go_num,by rw [HRT8.out,HE.out];rfl,HS8.out.1,HS8.out.2.1,HS8.out.2.2⟩
      case measure=>simp [intOf];omega
   ·have hlt1:¬ (i:Int)<(m.ords.length:Int):=by omega
    have HTV:=hid (show Aw m.v s i=Ad m.v s by unfold Ad;rw [HNV.out,show i=m.ords.length by omega]);obtain ⟨tot,htot⟩:∃ tot,tot=Aw m.v s i:=⟨_,rfl⟩
    rw [<- htot] at HRT HTV htl;clear htot;obtain ⟨k8,k9,kb8⟩:=aL wr (.cells #[.slice none 0 0] 105) (.cells #[.nilFunc] 137);go_upto_region 14 with fail;generalize (wr.alloc (.cells #[.slice none 0 0] 105)).alloc (.cells #[.nilFunc] 137)=w8 at *;have HGOE:=hid (show w.heap.size<=wr.heap.size from HB.out.size);obtain ⟨go,hgo⟩:∃ go,go=wr.heap.size:=⟨_,rfl⟩
    obtain ⟨gw,hgw⟩:∃ gw,gw=wr.heap.size+1:=⟨_,rfl⟩
    have HNG:=hid (show go≠gw/\gt≠gw/\h1≠gw/\h2≠gw from ⟨by omega,by rw [hgw];exact Nat.ne_of_lt (Nat.lt_succ_of_lt (lh HRT.out)),by rw [hgw];exact Nat.ne_of_lt (Nat.lt_succ_of_lt (lh HR1.out)),by rw [hgw];exact Nat.ne_of_lt (Nat.lt_succ_of_lt (lh HR2.out))⟩);have HGOE2:=hid (show w.heap.size<=go/\w.heap.size<=gw by rw [hgo,hgw];exact ⟨HGOE.out,Nat.le_succ_of_le HGOE.out⟩)
    have HB8:=hid (bL HB.out kb8);have HRT8:=hid (rK HRT.out kb8);have HR18:=hid (rK HR1.out kb8);have HR28:=hid (rK HR2.out kb8);rw [<- hgo] at k8;rw [<- hgw] at k9;rw [<- hgw,<- hgo];have HGO8:=hid k8;have c9:=CX k9 0 .nilFunc rfl;have f9:=fz k9 0
    have HGW9:=hid (show (w8.setCell ⟨gw,0,none⟩ (funA gt go h1 h2 gw)).heap[gw]? = some (.cells #[funA gt go h1 h2 gw] 137) by rw [Hp k9];rfl);clear hgo hgw k8 k9 kb8 HB HRT HR1 HR2;go_upto_region 15 with fail;(try simp only [Act.put])
    have HAC:=hid (show AllC m s tot gt go h1 h2 gw w (w8.setCell ⟨gw,0,none⟩ (funA gt go h1 h2 gw)) from ⟨setOther HRT8.out HNG.out.2.1,setOther HR18.out HNG.out.2.2.1,setOther HR28.out HNG.out.2.2.2,HGW9.out,HB8.out.setCell (p:=⟨gw,0,none⟩) HGOE2.out.2 _⟩)
    have HAS:=hid (show AllS go w.heap.size [] (w8.setCell ⟨gw,0,none⟩ (funA gt go h1 h2 gw)) from ⟨none,0,setOther HGO8.out HNG.out.1,OR.nil _ _ _ _,fun m hm=>absurd hm (by simp)⟩);clear c9 f9 HGW9 HRT8 HR18 HR28 HGO8 HB8
    rw [show Value.func (Fn.func 88) #[] #[.pointer (some ⟨gt,0,none⟩),.pointer (some ⟨go,0,none⟩),.pointer (some ⟨h1,0,none⟩),.pointer (some ⟨h2,0,none⟩),.pointer (some ⟨gw,0,none⟩)]=funA gt go h1 h2 gw from rfl];generalize w8.setCell ⟨gw,0,none⟩ (funA gt go h1 h2 gw)=w9 at *;have q9:=CX HAC.out.f 0 (funA gt go h1 h2 gw) rfl
    have HWK:=hid (swalk_any m s tot gt go h1 h2 gw w (HM.out w (Below.refl _ _)) hml hs20 HGOE2.out.1 (by omega) tot [] none 0 w9 [] (by simp) HAC.out HAS.out (by simp) (OR.nil _ _ _ _));go_wp2_with fail;refine HWK.out.mono ?_;rintro e w10 ⟨b,ms,rfl,hs10,hf10,hyes⟩;obtain ⟨A,c,hgo10,hso10⟩:=hs10;have HB10:=hid (HAC.out.bel.trans hf10.bel);have HSO:=hid hso10;have HYES:=hid hyes
    have q10:=CX hgo10 0 (.slice A ms.length c) rfl;clear hgo10 hso10 hf10 hyes HWK HAC HAS q9
    cases b with
    |false =>
     clear HYES;go_wp2_with fail;go_ret2;exact AllE.many HB10.out
    |true =>
     obtain ⟨hm1,hm2⟩:=HYES.out rfl;have HN:=hid (show ms.map (·.l)=sF m.v s (Ad m.v s) [] by rw [hm1,HTV.out];rfl);clear hm1 HYES;go_wp2_with fail;go_ret2;exact ⟨A,c,ms,0,rfl,HSO.out,hm2,fun _=>⟨fun _=>HN.out,fun h=>absurd HA.out h⟩,.inl rfl,HB10.out⟩
end Go.Proofs.YtjcekdiocliddaaGreatDoor

/- best.Best. (Printed by wip/tk/mkToR.py.) -/
import Derived.Test.YtjcekdiocliddaaGreatDoorToQ
namespace Go.Proofs.YtjcekdiocliddaaGreatDoor
open Lib (hid)
open Go.RowKit Num Txt Pf Tk
set_option maxHeartbeats 32000000
set_option maxRecDepth 100000
set_option linter.unusedVariables false
attribute [local go_sem] BS Bg Bt Bm Be Ba
def LS (x:IV) (l:List Int):Nat:=(l.map fun i=>(vO x i).length).sum
theorem lenS_snoc (x:IV) (l:List Int) (i:Int):LS x (l ++ [i])=LS x l+(vO x i).length:=by
 unfold LS;rw [List.map_append,List.sum_append];simp
theorem lenS_mem (x:IV) (s:Nat):∀ k,k<=63->LS x (MK s k)=Aw x s k
 |0,_=>rfl
 |k+1,h=>by
  rw [tK,<- lenS_mem x s k (by omega),<- Ht (show k<=62 by omega)]
  cases hb:Aa s (k:Int) with
  |true=>rw [memK_yes hb,lenS_snoc];simp
  |false=>rw [memK_no hb];simp
theorem totK_hi (x:IV) {s n:Nat} (hs:s<2 ^ n):∀ j,Aw x s (n+j)=Aw x s n
 |0=>rfl
 |j+1=>by
  rw [<- Nat.add_assoc,tK,totK_hi x hs j,Nat.testBit_lt_two_pow (Nat.lt_of_lt_of_le hs (Nat.pow_le_pow_right (by decide) (Nat.le_add_right n j)))];simp
theorem lenS_tot {x:IV} {s:Nat} (hs:s<2 ^ x.ords.length) (h3:x.ords.length<=3):LS x (MS s)=Ad x s:=by
 unfold MS Ad;rw [lenS_mem x s 63 (Nat.le_refl _),show (63:Nat)=x.ords.length+(63 - x.ords.length) by omega,totK_hi x hs]
theorem lenS_take (x:IV) (l:List Int) {i:Nat} (h:i<l.length):LS x (l.take (i+1))=LS x (l.take i)+(vO x l[i]).length:=by
 rw [Ts h,lenS_snoc]
theorem lenS_le (x:IV):∀ l:List Int,LS x l<=2*l.length
 |[]=>Nat.le_refl _
 |a :: l=>by
  have h1:=lenS_le x l;have h2:=vf x a;show (vO x a).length+LS x l<=2*(l.length+1)
  omega
def BstE (m:IM) (k s:Nat) (w:World) (e:Ending) (w':World):Prop:=∃ (c:CM) (z:Int),e=.returned (.tuple #[.agg (CR c),.int .i64 z])/\(z=0->AP m.v s/\BestC m.v (k:Int) s c.price)/\(z≠0->¬ AP m.v s∨NoneC m.v (k:Int) s)/\Below w.heap.size w w'
theorem BstE.no {m:IM} {k s:Nat} {w w':World} (h:¬ AP m.v s∨NoneC m.v (k:Int) s) (hb:Below w.heap.size w w'):BstE m k s w (.returned (.tuple #[.agg (CR cZ),.int .i64 24])) w':=⟨cZ,24,rfl,fun h=>absurd h (by decide),fun _=>h,hb⟩
theorem ready_zero {t:TV} (ht:TO t):(∀ a ∈ rL t [] t.opn 0,StOK a)/\(rL t [] t.opn 0).length<=2:=by
 refine ⟨fun a ha=>?_,readyL_len t [] _ _⟩;have h1:=ht.opn;have h2:=ht.cls;have h3:=ht.rest;rcases RL.1 ha with (h | rfl) | rfl
 ·exact absurd h (by simp)
 ·exact ⟨⟨by show (0:Int)<=t.opn;omega,by show t.opn<=20000;omega⟩,⟨Int.le_refl _,by show (0:Int)<=4096;omega⟩⟩
 ·exact ⟨⟨by show (0:Int)<=t.opn+t.rest;omega,by show t.opn+t.rest<=20000;omega⟩,⟨Int.le_refl _,by show (0:Int)<=4096;omega⟩⟩
theorem set_ok {m:IM} {k s:Nat} (hok:IK m.v) (hs:s<2 ^ m.v.ords.length) (h0:0<s) (ha:AP m.v s) (hk:k<m.types.length):Se m.v s m.types[k].t (k:Int):=⟨hok,hs,h0,ha,Int.natCast_nonneg k,by
 show (m.types.map (·.t))[(k:Int).toNat]? = _
 rw [Int.toNat_natCast,List.getElem?_map,List.getElem?_eq_getElem hk];rfl⟩
theorem bbest_any (m:IM) (k s:Nat) (w:World) (hm:IA w m) (hok:IK m.v) (hml:m.ords.length<=3) (hT:Tb w) (hk:k<m.types.length) (hs:s<2 ^ m.ords.length) (hs0:0<s) :
  Calls Tryz.prog 12 #[iA m,.int .i64 k,.int .i64 s] w (BstE m k s w):=by
 obtain ⟨k1,k2,kb⟩:=aL w (.cells (iQ m) 30) (.cells (CR cZ) 55);have HB:=hid kb;have HK1:=hid k1;have HK2:=hid k2;have hs8:s<8:=Nat.lt_of_lt_of_le hs (Nat.pow_le_pow_right (n:=2) (by decide) hml);have hs20:s<1048576:=by omega
 have hz:(s:Int) / 2 ^ m.ords.length=0:=by
  have:(s:Int) / 2 ^ m.ords.length=((s / 2 ^ m.ords.length:Nat):Int):=by rw [Int.natCast_ediv,Int.natCast_pow];rfl
  rw [this,Nat.div_eq_of_lt hs];rfl
 have HAL:=hid (fun (w':World) (hb:Below w.heap.size w w')=>aa m s w' (hm.below hb) hml hs);have HVI:=hid (fun (i:Int) (w':World) (hb:Below w.heap.size w w')=>Oa m i w' (hm.ords.below hb) hm.ol hml);have HSET:=hid (fun (ha:AP m.v s)=>set_ok hok (by rw [oL];exact hs) hs0 ha hk)
 have HTOT:=hid (lenS_tot (x:=m.v) (s:=s) (by rw [oL];exact hs) (by rw [oL];exact hml));have HTLE:=hid (totV_le hok s);have hty:=hok.types _ (Ti (List.getElem_mem hk));have HTY:=hid hty;have HRZ:=hid (ready_zero hty);have HT:=hid hT;have hol:=hm.ol;have htl:=hm.tl;have hnt:m.types.length<=2:=by have h:=hok.nt;unfold IM.v at h;rw [List.length_map] at h;exact h
 have hk0:¬ (k:Int)<0:=by omega
 have hk2:¬ (m.types.length:Int)<=(k:Int):=by omega
 have hk3:(k:Int)<(m.types.length:Int):=by omega
 have hs1:¬ (s:Int)<=0:=by omega
 obtain ⟨gt,ot,hA1,hgt,hTC⟩:∃ gt ot,m.tA=some ⟨gt,ot,none⟩/\gt<w.heap.size/\∀ j v,(m.types[k].cells)[j]? = some v->w.cell? ⟨gt,ot+k*14+j,none⟩=some v:=by
  obtain ⟨g1,o1,hA1,hg1,hx1⟩:=eP Ty.cells_len (by decide) hm.types (by omega);exact ⟨g1,o1,hA1,hg1,fun j v h=>hx1 k hk j v h⟩
 have HTC:=hid hTC;have HGT:=hid hgt;have HTA:=hid hA1;unfold maxLen at hol htl;clear k1 k2 kb hs hty hTC hgt hA1;go_enter Tryz.func12,Tryz.ntmps12;(try simp only [Bm]);go_upto_region 1 with fail
 rw [show (w.alloc (.cells #[.slice m.pA m.places.length m.pc,.slice m.aA m.arcs.length m.ac,.slice m.tA m.types.length m.tc,.slice m.oA m.ords.length m.oc,.slice m.xA m.apart.length m.xc,.slice m.bA m.before.length m.bc] 30)).alloc (.cells #[.int .i64 0,.int .i64 0,.int .i64 0,.int .i64 0,.int .i64 0,.slice none 0 0,.slice none 0 0] 55)=(w.alloc (.cells (iQ m) 30)).alloc (.cells (CR cZ) 55) from rfl]
 generalize (w.alloc (.cells (iQ m) 30)).alloc (.cells (CR cZ) 55)=wa at *;obtain ⟨h1,hh1⟩:∃ h1,h1=w.heap.size:=⟨_,rfl⟩
 obtain ⟨h2,hh2⟩:∃ h2,h2=w.heap.size+1:=⟨_,rfl⟩
 have HH2:=hid (show w.heap.size<=h2 by omega);rw [<- hh2] at HK2;rw [<- hh1] at HK1;rw [<- hh2,<- hh1];clear hh1 hh2;have y2:=CX HK1.out 2 (.slice m.tA m.types.length m.tc) rfl;have y3:=CX HK1.out 3 (.slice m.oA m.ords.length m.oc) rfl;go_upto_region 3 with fail;clear y2 y3 hz;go_wp2_with (refine lr HK1.out Tryz.underlying30 ?_)
 refine (HAL.out wa HB.out).mono ?_;rintro e w1 ⟨ka,rfl,hka,hb1⟩;have HKA:=hid hka;have HB1:=hid (bL HB.out hb1);have HK11:=hid (rK HK1.out hb1);have HK21:=hid (rK HK2.out hb1);clear hka hb1 HB HK1 HK2 HAL;by_cases hka0:ka=0;rotate_left
 ·have hkb:=nf (ib hka0)
  have HN:=hid (show ¬ AP m.v s from fun h=>hka0 (HKA.out.2 h));clear hka0 HKA;go_wp2_with (first | (refine Wb rfl 55 _ rfl (CR cZ) (by kernel_rfl) ?_) | (refine sw (CR cZ) HK21.out ?_))
  refine bodyPost_ret (rr rfl (run_loadVar_row (P:=Tryz.prog) _ h2 55 55 _ _ _ (setRow_heap _ _ _ _ _ _ HK21.out) Tryz.underlying55 rfl (by kernel_rfl)) rfl rfl) rfl ?_;exact BstE.no (.inl HN.out) (below_setRow HB1.out HH2.out _)
 have HA:=hid (HKA.out.1 hka0);subst hka0;clear HKA;go_upto_region 6 with (first | (refine lr HK11.out Tryz.underlying30 ?_) | (refine Wb rfl 98 _ rfl (sr m (k:Int) (s:Int) 0 cZ false) (by kernel_rfl) ?_))
 obtain ⟨n2,p2⟩:=Na w1 (.cells (sr m (k:Int) (s:Int) 0 cZ false) 98);generalize w1.alloc (.cells (sr m (k:Int) (s:Int) 0 cZ false) 98)=w2 at *;obtain ⟨gs,hgs⟩:∃ gs,gs=w1.heap.size:=⟨_,rfl⟩
 have HGS:=hid (show w.heap.size<=gs by rw [hgs];exact HB1.out.size);rw [<- hgs] at p2;rw [<- hgs];have HP2:=hid p2;have HB2:=hid (bL HB1.out n2);have HK12:=hid (rK HK11.out n2);have HK22:=hid (rK HK21.out n2);clear n2 p2 hgs HB1 HK11 HK21;go_wp2_with fail;refine (ma s w2 hs20).mono ?_;rintro e w3 ⟨MA,mc,rfl,hmo,hb3⟩;have HMO:=hid hmo
 have HML:=hid (mK s 63);have hmc:=OR.cap hmo;have HP3:=hid (rK HP2.out hb3);have HB3:=hid (bL HB2.out hb3);have HK13:=hid (rK HK12.out hb3);have HK23:=hid (rK HK22.out hb3);have HG3:=hid (lh HP3.out);obtain ⟨ml,hml2⟩:∃ ml,ml=MS s:=⟨_,rfl⟩
 have hmll:ml.length<=63:=by rw [hml2];exact HML.out
 rw [<- hml2] at HMO hmc HTOT;rw [<- hml2];unfold maxLen at hmc;clear hmo hb3 hml2 HML HP2 HB2 HK12 HK22;go_wp2_with fail;go_loopw [47] (fun j wr=>∃ i:Nat,i<=ml.length/\j=.int .i64 i/\wr.heap[gs]? = some (.cells (sr m (k:Int) (s:Int) (LS m.v (ml.take i):Int) cZ false) 98)/\FR w.heap.size bS w3 wr) (fun j _=>ml.length - (intOf j).toNat)
 case atStart=>exact ⟨0,Nat.zero_le _,rfl,HP3.out,FR.refl _ _ _⟩
 case round =>
  clear HP3;obtain ⟨i,hi,rfl,hrow,hfr⟩:=hrel;have HR:=hid hrow;have HF:=hid hfr;have HB:=hid (HB3.out.trans hfr.bel);clear hrow hfr;by_cases hlt:i<ml.length
  ·have hlt1:(i:Int)<(ml.length:Int):=by omega
   have HMR2:=hid (OR.keptT HMO.out HF.out.kt (by decide));obtain ⟨g1,o1,hA1,hg1,hx1⟩:=OR.cells HMR2.out (by rw [il];omega);have x0:=hx1 i _ (iK ml i hlt);have HLS:=hid (lenS_take m.v ml hlt);have hvf:=vf m.v ml[i];have hle:=lenS_le m.v (ml.take i);rw [List.length_take] at hle;rw [hA1];clear hx1 hA1;obtain ⟨u,hu⟩:∃ u,u=ml[i]:=⟨_,rfl⟩
   rw [<- hu] at x0 HLS hvf;clear hu;go_upto_region 9 with fail;clear x0;obtain ⟨tot,htot⟩:∃ tot,tot=LS m.v (ml.take i):=⟨_,rfl⟩
   rw [<- htot] at HR HLS hle;clear htot;obtain ⟨vl,hvl⟩:∃ vl,vl=(vO m.v u).length:=⟨_,rfl⟩
   rw [<- hvl] at HLS hvf;have HVL:=hid hvl;clear hvl;have HKR:=hid (HF.out.kt.row _ _ _ _ HK13.out (by decide));have HGR:=hid (lh HR.out);have hd:Below wr.heap.size wr wr.drew:=(Below.refl _ wr).drew;have hS0:(fun w'=>w'.heap[h1]? = some (.cells (iQ m) 30)/\FR w.heap.size bS wr w') wr.drew:=⟨rK HKR.out hd,FR.below hd HB.out.size⟩
   refine wp_region_held_drew (S:=fun w'=>w'.heap[h1]? = some (.cells (iQ m) 30)/\FR w.heap.size bS wr w') (by kernel_rfl) hS0 (fun _=>?_);refine tk 0 ?_;refine tk 1 ?_;refine tk 2 ?_;refine tk 4 ?_;(try simp only [Act.put,P1,pu,P3]);refine tq 5 (fun w hSw=>CX hSw.1 3 (.slice m.oA m.ords.length m.oc) rfl) ?_;refine tk 6 ?_;(try simp only [Act.put,P1,pu,P3])
   refine wpAnyH_ready (rs:=[3,7]) (by kernel_rfl) (by simp) (AllReadyH.cons (by simp only [List.getElem?_toArray,List.getElem?_cons_succ,List.getElem?_cons_zero];rfl) (fun K hK=>?_) (AllReadyH.cons (by simp only [List.getElem?_toArray,List.getElem?_cons_succ,List.getElem?_cons_zero];rfl) (fun K hK=>?_) AllReadyH.nil))
   ·skip
    have q0:=CX (w:=wr.drew) HR.out 8 (.int .i64 (tot:Int)) rfl;go_simp;clear q0;refine hK.out _ _ (by assumption) (fun _=>?_);clear hK K;(try simp only [Act.put,P1,pu,P3]);refine one 7 (fun K hK=>?_);go_simp;refine (HVI.out u wr.drew HB.out.drew).mono ?_;rintro e w7 ⟨VA,vc,rfl,_,hb7⟩;have hR7:=rK (w:=wr.drew) HR.out hb7
    have hF7:FR w.heap.size bS wr w7:=(FR.below hd HB.out.size).trans (FR.below hb7 HB.out.drew.size);have hS7:w7.heap[h1]? = some (.cells (iQ m) 30)/\FR w.heap.size bS wr w7:=⟨rK (w:=wr.drew) HKR.out hb7,hF7⟩
    rw [<- HVL.out];refine hK.out _ _ (hS7) (fun _=>?_);clear hK K;refine tk 8 ?_;(try simp only [Act.put,P1,pu,P3]);have e1:IntKind.i64.wrap ((tot:Int)+(vl:Int))=(tot:Int)+(vl:Int):=wrap_small (by omega) (by omega);refine Tv 9 (v:=.int .i64 ((tot:Int)+(vl:Int))) ?_ ?_
    ·(intro w hSw;go_simp;first | done | rfl | (rw [e1]) | (simp [e1]))
    refine tk 10 ?_;refine tk 11 ?_;(try simp only [Act.put,P1,pu,P3]);refine one 12 (fun K hK=>?_);have q0:=CX hR7 8 (.int .i64 (tot:Int)) rfl;have f0:=fz hR7 8;go_simp;clear q0 f0;have hR8:(w7.setCell ⟨gs,8,none⟩ (.int .i64 ((tot:Int)+(vl:Int)))).heap[gs]? = some (.cells (sr m (k:Int) (s:Int) ((tot+vl:Nat):Int) cZ false) 98):=by rw [Hp hR7];rfl
    have hF8:FR w.heap.size bS wr (w7.setCell ⟨gs,8,none⟩ (.int .i64 ((tot:Int)+(vl:Int)))):=hF7.trans ⟨(Below.refl _ _).setCell (p:=⟨gs,8,none⟩) HGS.out _,KT.store hR7 (by decide)⟩
    have hS8:(w7.setCell ⟨gs,8,none⟩ (.int .i64 ((tot:Int)+(vl:Int)))).heap[h1]? = some (.cells (iQ m) 30)/\FR w.heap.size bS wr (w7.setCell ⟨gs,8,none⟩ (.int .i64 ((tot:Int)+(vl:Int)))):=⟨hF8.kt.row _ _ _ _ HKR.out (by decide),hF8⟩
    refine hK.out _ _ (hS8) (fun _=>?_);clear hK K;(try simp only [Act.put]);refine wpAnyH_done (by kernel_rfl) ?_ _;go_wp2_with fail;go_roundw
    case rel=>exact ⟨i+1,by omega,by go_num,by rw [HLS.out];exact hR8,HF.out.trans hF8⟩
    case measure=>simp [intOf];omega
   ·skip
    go_simp;refine (HVI.out u wr.drew HB.out.drew).mono ?_;rintro e w7 ⟨VA,vc,rfl,_,hb7⟩;have hR7:=rK (w:=wr.drew) HR.out hb7;have hF7:FR w.heap.size bS wr w7:=(FR.below hd HB.out.size).trans (FR.below hb7 HB.out.drew.size);have hS7:w7.heap[h1]? = some (.cells (iQ m) 30)/\FR w.heap.size bS wr w7:=⟨rK (w:=wr.drew) HKR.out hb7,hF7⟩
    rw [<- HVL.out];refine hK.out _ _ (hS7) (fun _=>?_);clear hK K;refine tk 8 ?_;(try simp only [Act.put,P1,pu,P3]);refine one 3 (fun K hK=>?_);have q0:=CX hR7 8 (.int .i64 (tot:Int)) rfl;go_simp;clear q0;refine hK.out _ _ (hS7) (fun _=>?_);clear hK K;(try simp only [Act.put,P1,pu,P3]);have e1:IntKind.i64.wrap ((tot:Int)+(vl:Int))=(tot:Int)+(vl:Int):=wrap_small (by omega) (by omega)
    refine Tv 9 (v:=.int .i64 ((tot:Int)+(vl:Int))) ?_ ?_
    ·(intro w hSw;go_simp;first | done | rfl | (rw [e1]) | (simp [e1]))
    refine tk 10 ?_;refine tk 11 ?_;(try simp only [Act.put,P1,pu,P3]);refine one 12 (fun K hK=>?_);have q0:=CX hR7 8 (.int .i64 (tot:Int)) rfl;have f0:=fz hR7 8;go_simp;clear q0 f0;have hR8:(w7.setCell ⟨gs,8,none⟩ (.int .i64 ((tot:Int)+(vl:Int)))).heap[gs]? = some (.cells (sr m (k:Int) (s:Int) ((tot+vl:Nat):Int) cZ false) 98):=by rw [Hp hR7];rfl
    have hF8:FR w.heap.size bS wr (w7.setCell ⟨gs,8,none⟩ (.int .i64 ((tot:Int)+(vl:Int)))):=hF7.trans ⟨(Below.refl _ _).setCell (p:=⟨gs,8,none⟩) HGS.out _,KT.store hR7 (by decide)⟩
    have hS8:(w7.setCell ⟨gs,8,none⟩ (.int .i64 ((tot:Int)+(vl:Int)))).heap[h1]? = some (.cells (iQ m) 30)/\FR w.heap.size bS wr (w7.setCell ⟨gs,8,none⟩ (.int .i64 ((tot:Int)+(vl:Int)))):=⟨hF8.kt.row _ _ _ _ HKR.out (by decide),hF8⟩
    refine hK.out _ _ (hS8) (fun _=>?_);clear hK K;(try simp only [Act.put]);refine wpAnyH_done (by kernel_rfl) ?_ _;go_wp2_with fail;go_roundw
    case rel=>exact ⟨i+1,by omega,by go_num,by rw [HLS.out];exact hR8,HF.out.trans hF8⟩
    case measure=>simp [intOf];omega
  ·have hlt1:¬ (i:Int)<(ml.length:Int):=by omega
   have hall:LS m.v (ml.take i)=Ad m.v s:=by rw [List.take_of_length_le (by omega)];exact HTOT.out
   rw [hall] at HR;have HK1R:=hid (HF.out.kt.row _ _ _ _ HK13.out (by decide));have HK2R:=hid (HF.out.kt.row _ _ _ _ HK23.out (by decide));clear hall;obtain ⟨t,ht⟩:∃ t,t=Ad m.v s:=⟨_,rfl⟩
   rw [<- ht] at HR HTLE;have HTV:=hid ht;clear ht;generalize wr=wo at *;have y2:=CX HK1R.out 2 (.slice m.tA m.types.length m.tc) rfl;obtain ⟨ty,hte⟩:∃ ty,ty=m.types[k]:=⟨_,rfl⟩
   rw [<- hte] at HTC HTY HRZ HSET;have HTYE:=hid hte;clear hte;have HTCO:=hid (fun j v h=>(HB.out.cell (p:=⟨gt,ot+k*14+j,none⟩) HGT.out).trans (HTC.out j v h));have HGTO:=hid (Nat.lt_of_lt_of_le HGT.out HB.out.size);have hgto:=HGTO.out;rw [HTA.out] at y2
   obtain ⟨_,pw5⟩:=Na wo (.cells #[.string (B []),.int .i64 0,.int .i64 0,.int .i64 0,.slice none 0 0,.int .i64 0,.int .i64 0,.int .i64 0,.int .i64 0,.int .i64 0,.int .i64 0,.int .i64 0,.int .i64 0,.int .i64 0] 81)
   obtain ⟨q5,b5⟩:=nS wo #[.string (B []),.int .i64 0,.int .i64 0,.int .i64 0,.slice none 0 0,.int .i64 0,.int .i64 0,.int .i64 0,.int .i64 0,.int .i64 0,.int .i64 0,.int .i64 0,.int .i64 0,.int .i64 0] ty.cells.toArray 81
   go_upto_region 12 with (first | (refine wL rfl 81 _ rfl gt (ot+k*14) rfl ty.cells _ HTCO.out Tryz.underlying81 rfl (by kernel_rfl) ?_) | (refine sw ty.cells.toArray pw5 ?_))
   (try simp only [Act.put]);generalize (wo.alloc (.cells #[.string (B []),.int .i64 0,.int .i64 0,.int .i64 0,.slice none 0 0,.int .i64 0,.int .i64 0,.int .i64 0,.int .i64 0,.int .i64 0,.int .i64 0,.int .i64 0,.int .i64 0,.int .i64 0] 81)).setRow wo.heap.size ty.cells.toArray=w5 at *;have HQ5:=hid q5;have HB5:=hid (bL HB.out b5);have HK25:=hid (rK HK2R.out b5)
   have HR5:=hid (rK HR.out b5);obtain ⟨g5,hg5⟩:∃ g5,g5=wo.heap.size:=⟨_,rfl⟩
   rw [<- hg5] at HQ5;rw [<- hg5];clear q5 b5 hg5 y2 hgto HTCO HGTO HK1R HK2R HR HTC pw5;have HSZ5:=hid HB5.out.size;have hd:Below w5.heap.size w5 w5.drew:=(Below.refl _ w5).drew;have hfd:FR w.heap.size bS w5 w5.drew:=FR.below hd HSZ5.out;have hS0:(fun w'=>FR w.heap.size bS w5 w') w5.drew:=hfd
   have HRY:=hid (bready_any m k (s:Int) (t:Int) cZ false gs [] ty.t.opn 0 w5.drew.heap.size none 0 w w5.drew hm (HB5.out.drew) (Nat.le_trans HSZ5.out hd.size) hk (rK HR5.out hd) (lh (rK HR5.out hd)) (OR.nil _ _ _ _) (Nat.le_refl _) (by simp) (by have h1:=HTY.out.opn;have h2:=HTY.out.cls;omega) (by rw [<- HTYE.out];have h3:=HTY.out.rest;omega))
   have HWK:=hid (fun (w':World) (hb:Below w.heap.size w w') (Al:Option Addr) (cl:Nat) (hgl:gs<=w'.heap.size) (hrow:w'.heap[gs]? = some (.cells (sr m (k:Int) (s:Int) (t:Int) cZ false) 98)) (hst:StO w' gs Al cl (rL ty.t [] ty.t.opn 0)) =>
    (bwalk_any m k s t gs gs w hm hok hml HT.out hk hs20 HGS.out (Nat.le_refl _) HTLE.out t [] none 0 ty.t.frm (rL ty.t [] ty.t.opn 0) Al cl (fun _=>False) cZ false w' (by simp) (fun vs h=>by rw [<- HTV.out];exact h) hb hgl ⟨hrow,OR.nil _ _ _ _⟩ (Sh.zero ..) (OR.nil _ _ _ _) hst HRZ.out.1 HRZ.out.2 :
     Calls Tryz.prog 34 #[.pointer (some ⟨gs,0,none⟩),.slice none 0 0,.int .i64 ty.t.frm,.slice Al (rL ty.t [] ty.t.opn 0).length cl] w' (BWalkE m k s t gs gs (fun vs=>False∨vs ∈ WF m.v m.types[k].t s t [] ty.t.frm (rL ty.t [] ty.t.opn 0)) w')))
   rw [<- HTYE.out] at HRY;rw [<- HTYE.out] at HWK;refine wp_region_held_drew (S:=fun w'=>FR w.heap.size bS w5 w') (by kernel_rfl) hS0 (fun _=>?_);refine tk 0 ?_;refine tk 1 ?_;refine tq 2 (fun w hSw=>CX (hSw.kt.row _ _ _ _ HQ5.out (by decide)) 2 (.int .i64 ty.t.frm) rfl) ?_;refine tk 3 ?_;(try simp only [Act.put,P1,pu,P3]);refine tk 4 ?_
   refine tq 5 (fun w hSw=>CX (hSw.kt.row _ _ _ _ HQ5.out (by decide)) 7 (.int .i64 ty.t.opn) rfl) ?_;(try simp only [Act.put,P1,pu,P3]);refine one 6 (fun K hK=>?_);go_simp;refine HRY.out.mono ?_;rintro e w6 ⟨A6,c6,rfl,hown6,hb6,_⟩;have hF6:FR w.heap.size bS w5 w6:=hfd.trans (FR.below hb6 (Nat.le_trans HSZ5.out hd.size));refine hK.out _ _ (hF6) (fun _=>?_);clear hK K
   (try simp only [Act.put,P1,pu,P3]);refine one 7 (fun K hK=>?_);go_simp;refine (HWK.out w6 (HB5.out.trans hF6.bel) A6 c6 (Nat.le_of_lt (lh (rK (rK HR5.out hd) hb6))) (rK (rK HR5.out hd) hb6) (hown6.mono (Nat.le_of_lt (lh (rK HR5.out hd))))).mono ?_;rintro e w7 ⟨rfl,c7,f7,hbs7,hsr7,hf7⟩
   have hF7:FR w.heap.size bS w5 w7:=hF6.trans ⟨hf7.bel.mono HGS.out,hf7.kt⟩;refine hK.out _ _ (hF7) (fun _=>?_);clear hK K;refine wpAnyH_done (by kernel_rfl) ?_ _;clear HRY HWK;have HR7:=hid hbs7.row;have HSR:=hid (hsr7.imp (fun vs (h:vs ∈ WF m.v ty.t s t [] ty.t.frm (rL ty.t [] ty.t.opn 0))=>.inr h));have HK27:=hid (hF7.kt.row _ _ _ _ HK25.out (by decide))
   have HB7:=hid (HB5.out.trans hF7.bel);have x16:=CX HR7.out 16 (.bool f7) rfl;have HBST:=hid (Sh.best (HSET.out HA.out) (by rw [<- HTV.out];exact HSR.out));clear hbs7 hsr7 hF7 HQ5 hd hfd hS0
   cases f7 with
   |false =>
    have HN:=hid (HBST.out.2 rfl);clear HBST HSR;go_wp2_with (first | (refine Wb rfl 55 _ rfl (CR cZ) (by kernel_rfl) ?_) | (refine sw (CR cZ) HK27.out ?_))
    refine bodyPost_ret (rr rfl (run_loadVar_row (P:=Tryz.prog) _ h2 55 55 _ _ _ (setRow_heap _ _ _ _ _ _ HK27.out) Tryz.underlying55 rfl (by kernel_rfl)) rfl rfl) rfl ?_;exact BstE.no (.inr HN.out) (below_setRow HB7.out HH2.out _)
   |true =>
    have HY:=hid (HBST.out.1 rfl);clear HBST HSR;go_wp2_with (first | (refine wL rfl 55 _ rfl gs 9 rfl (CR c7).toList _ (fun j v h=>CX HR7.out (9+j) v (col_cells h)) Tryz.underlying55 rfl (by kernel_rfl) ?_) | (refine sw (CR c7) HK27.out ?_))
    refine bodyPost_ret (rr rfl (run_loadVar_row (P:=Tryz.prog) _ h2 55 55 _ _ _ (setRow_heap _ _ _ _ _ _ HK27.out) Tryz.underlying55 rfl (by kernel_rfl)) rfl rfl) rfl ?_;exact ⟨c7,0,rfl,fun _=>⟨HA.out,HY.out⟩,fun h=>absurd rfl h,below_setRow HB7.out HH2.out _⟩
end Go.Proofs.YtjcekdiocliddaaGreatDoor

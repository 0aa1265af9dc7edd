/- label.Start. (Printed by wip/tk/mkToL.py.) -/
import Derived.Test.YtjcekdiocliddaaGreatDoorToH
namespace Go.Proofs.YtjcekdiocliddaaGreatDoor
open Lib (hid)
open Go.RowKit Num Txt Pf Tk
set_option maxHeartbeats 32000000
set_option maxRecDepth 100000
set_option linter.unusedVariables false
attribute [local go_sem] BS Bg Bt Bm Be Ba
def mkS (t:TV) (k:Int) (B:Option Addr) (c:Nat) (LL:List Int) (op:Nat):Lb:=⟨none,0,B,c,⟨k,[],t.frm,t.opn,0,0,LL,0,op⟩⟩
theorem loadK_nil (x:IV):lK x []=List.replicate (dV x) 0:=rfl
theorem own_madeR {w:World} {Bs d:Nat} {A:Option Addr} (h:OR w Bs 3 1 A d d (ints (List.replicate d 0))):Ao w Bs A d (List.replicate d 0):=by
 show OR _ _ _ _ _ _ _ _
 rw [List.length_replicate];exact h
theorem mkS_row (t:TV) (k:Int) (B:Option Addr) (d:Nat):(mkS t k B d (List.replicate d 0) 0).cells.toArray=#[.int .i64 k,.slice none 0 0,.int .i64 t.frm,.int .i64 t.opn,.int .i64 0,.int .i64 0,.slice B d d,.int .i64 0,.int .i64 0]:=by
 unfold mkS Lb.cells;simp only [List.length_replicate,List.length_nil];rfl
theorem lstart_any (m:IM) (k s:Nat) (w:World) (hm:IA w m) (hok:IK m.v) (hml:m.ords.length<=3) (hk:k<m.types.length) (hs:s<2 ^ m.ords.length) (hs0:0<s) :
  Calls Tryz.prog 38 #[iA m,.int .i64 k,.int .i64 s] w (LE (SL m.v m.types[k].t (k:Int) s) w):=by
 obtain ⟨n4,p4⟩:=Na w (.cells (iQ m) 30);have HN4:=hid n4;have HK:=hid p4;have HM:=hid (fun w' (hb:Below w.heap.size w w')=>hm.below hb);have HOK:=hid hok;have htl:=hm.tl;have hol:=hm.ol;have hk2:(k:Int)<(m.types.length:Int):=by omega
 have hk0:¬ (k:Int)<0:=by omega
 have hs8:s<8:=Nat.lt_of_lt_of_le hs (Nat.pow_le_pow_right (n:=2) (by decide) hml);have hs20:s<1048576:=by omega
 have HKN:=hid (fun w' (hb:Below w.heap.size w w')=>lknown_any m s w' (hm.below hb) hml hs hs0);have HPR:=hid (fun w' (hb:Below w.heap.size w w')=>lpaired_any m s w' (hm.below hb) hs20);have HMEM:=hid (fun w'=>ma s w' hs20);have HLT:=hid (fun i (hi:i ∈ MS s)=>Mt hs hi);have HTT:=hid (hok.types _ (Ti (List.getElem_mem hk)))
 have HTX:=hid (hok.typesX _ (Ti (List.getElem_mem hk)));have HTYA:=hid (fun w' (hb:Below w.heap.size w w')=>(hm.below hb).typeE _ (List.getElem_mem hk));have HSK:=hid (fun (i:Nat) (hi:i<m.ords.length)=>(hok.ordsX _ (ord_in (List.getElem_mem hi))).skills.1)
 have HST:=hid (show SL m.v m.types[k].t (k:Int) s=if kB m.v s && PB m.v s && aS m.v m.types[k].t s && fL (lO m.v s) m.types[k].t.cap then WL m.types[k].t (lb0 m.v m.types[k].t (k:Int) s) else [] from rfl);unfold maxLen at htl hol;clear hm hok n4 p4;go_enter Tryz.func38,Tryz.ntmps38;(try simp only [Bm]);go_upto_region 1 with fail;rw [iq]
 generalize w.alloc (.cells (iQ m) 30)=wa at *;obtain ⟨h1,hh1⟩:∃ h1,h1=w.heap.size:=⟨_,rfl⟩
 rw [<- hh1] at HK;rw [<- hh1];clear hh1;have qa0:=CX HK.out 0 (.slice m.pA m.places.length m.pc) rfl;have qa1:=CX HK.out 1 (.slice m.aA m.arcs.length m.ac) rfl;have qa2:=CX HK.out 2 (.slice m.tA m.types.length m.tc) rfl;have qa3:=CX HK.out 3 (.slice m.oA m.ords.length m.oc) rfl;have qa4:=CX HK.out 4 (.slice m.xA m.apart.length m.xc) rfl
 have qa5:=CX HK.out 5 (.slice m.bA m.before.length m.bc) rfl;go_wp2_with fail;refine (HKN.out wa HN4.out).mono ?_;rintro e w1 ⟨rfl,hb1⟩;have HB1:=hid (bL HN4.out hb1);have HK1:=hid (rK HK.out hb1);clear hb1 HKN qa0 qa1 qa2 qa3 qa4 qa5
 cases hkn:kB m.v s with
 |false =>
  have HE:=hid (HST.out.trans (if_neg (by rw [hkn];simp)));clear hkn;go_wp2_with fail;go_ret;exact LE.none HE.out HB1.out
 |true =>
  have HKB:=hid hkn;clear hkn;have qa0:=CX HK1.out 0 (.slice m.pA m.places.length m.pc) rfl;have qa1:=CX HK1.out 1 (.slice m.aA m.arcs.length m.ac) rfl;have qa2:=CX HK1.out 2 (.slice m.tA m.types.length m.tc) rfl;have qa3:=CX HK1.out 3 (.slice m.oA m.ords.length m.oc) rfl;have qa4:=CX HK1.out 4 (.slice m.xA m.apart.length m.xc) rfl
  have qa5:=CX HK1.out 5 (.slice m.bA m.before.length m.bc) rfl;go_wp2_with fail;refine (HPR.out w1 HB1.out).mono ?_;rintro e w2 ⟨rfl,hb2⟩;have HB2:=hid (bL HB1.out hb2);have HK2:=hid (rK HK1.out hb2);clear hb2 HPR qa0 qa1 qa2 qa3 qa4 qa5 HB1 HK1
  cases hpr:PB m.v s with
  |false =>
   have HE:=hid (HST.out.trans (if_neg (by rw [hpr];simp)));clear hpr;go_wp2_with fail;go_ret;exact LE.none HE.out HB2.out
  |true =>
   have HST2:=hid (show SL m.v m.types[k].t (k:Int) s=if aS m.v m.types[k].t s && fL (lO m.v s) m.types[k].t.cap then WL m.types[k].t (lb0 m.v m.types[k].t (k:Int) s) else [] by rw [HST.out,HKB.out,hpr];rfl);clear hpr HST HKB;obtain ⟨gt,ot,hTA,hgt,htc⟩:=eP Ty.cells_len (by decide) (HM.out w2 HB2.out).types (by omega);have HTC:=hid (fun j v h=>htc k hk j v h)
   have q2:=CX HK2.out 2 (.slice m.tA m.types.length m.tc) rfl;rw [hTA] at q2;obtain ⟨ty,hty⟩:∃ ty,ty=m.types[k]:=⟨_,rfl⟩
   rw [<- hty] at HTC HTT HTX HTYA HST2;have HTY:=hid hty;clear hty htc hTA;obtain ⟨_,pw3⟩:=Na w2 (.cells #[.string (B []),.int .i64 0,.int .i64 0,.int .i64 0,.slice none 0 0,.int .i64 0,.int .i64 0,.int .i64 0,.int .i64 0,.int .i64 0,.int .i64 0,.int .i64 0,.int .i64 0,.int .i64 0] 81)
   obtain ⟨q5,b5⟩:=nS w2 #[.string (B []),.int .i64 0,.int .i64 0,.int .i64 0,.slice none 0 0,.int .i64 0,.int .i64 0,.int .i64 0,.int .i64 0,.int .i64 0,.int .i64 0,.int .i64 0,.int .i64 0,.int .i64 0] ty.cells.toArray 81
   go_upto_region 4 with (first | (refine wL rfl 81 _ rfl gt (ot+k*14) rfl ty.cells _ HTC.out Tryz.underlying81 rfl (by kernel_rfl) ?_) | (refine sw ty.cells.toArray pw3 ?_))
   (try simp only [Act.put]);generalize (w2.alloc (.cells #[.string (B []),.int .i64 0,.int .i64 0,.int .i64 0,.slice none 0 0,.int .i64 0,.int .i64 0,.int .i64 0,.int .i64 0,.int .i64 0,.int .i64 0,.int .i64 0,.int .i64 0,.int .i64 0] 81)).setRow w2.heap.size ty.cells.toArray=w3 at *;have HB3:=hid (bL HB2.out b5);have HK3:=hid (rK HK2.out b5);have HQ3:=hid q5
   obtain ⟨h7,hh7⟩:∃ h7,h7=w2.heap.size:=⟨_,rfl⟩
   rw [<- hh7] at HQ3;rw [<- hh7];clear hh7 pw3 q5 b5 q2 HTC HB2 HK2;obtain ⟨d,hd⟩:∃ d,d=ty.t.cap.length:=⟨_,rfl⟩
   have HD:=hid hd;have hd3:d<=3:=by rw [hd];exact HTX.out.few
   clear hd;go_cut [8] (fun u wx=>∃ g B,u=.pointer (some ⟨g,0,none⟩)/\w.heap.size<=g/\wx.heap[g]? = some (.cells (mkS ty.t (k:Int) B d (List.replicate d 0) 0).cells.toArray 65)/\Ao wx w.heap.size B d (List.replicate d 0)/\Below w3.heap.size w3 wx)
   case first =>
    as_aux_lemma =>
    have hd1:Below w3.heap.size w3 w3.drew:=(Below.refl _ w3).drew;have hS0:(fun w'=>Below w3.heap.size w3 w') w3.drew:=hd1;have mk:=Mi d (by omega);refine wp_region_held_drew (S:=fun w'=>Below w3.heap.size w3 w') (by kernel_rfl) hS0 (fun _=>?_);refine tk 0 ?_;refine tk 1 ?_;refine tq 2 (fun w hSw=>CX (rK HQ3.out hSw) 2 (.int .i64 ty.t.frm) rfl) ?_;refine tk 3 ?_
    (try simp only [Act.put,P1,pu,P3]);refine tq 4 (fun w hSw=>CX (rK HQ3.out hSw) 7 (.int .i64 ty.t.opn) rfl) ?_;refine tk 5 ?_;(try simp only [Act.put,P1,pu,P3]);refine Tv 6 (v:=?_) ?_ ?_;rotate_left
    ·(intro w hSw;have q0:=CX (rK HQ3.out hSw) 4 (.slice ty.A ty.t.cap.length ty.ca) rfl;rw [<- HD.out] at q0;go_simp;(try with_reducible rfl))
    refine tk 7 ?_;(try simp only [Act.put,P1,pu,P3]);have HWQ:=hid (show w.heap.size<=w3.drew.heap.size from HB3.out.size);have HWQ3:=hid (show w3.heap.size<=w3.drew.heap.size from Nat.le_refl _);generalize w3.drew=wq at *
    refine wpAnyH_ready (rs:=[8,10]) (by kernel_rfl) (by simp) (AllReadyH.cons (by simp only [List.getElem?_toArray,List.getElem?_cons_succ,List.getElem?_cons_zero];rfl) (fun K hK=>?_) (AllReadyH.cons (by simp only [List.getElem?_toArray,List.getElem?_cons_succ,List.getElem?_cons_zero];rfl) (fun K hK=>?_) AllReadyH.nil))
    ·skip
     obtain ⟨n1,p1⟩:=Na wq (.cells (madeCells #[.int .i64 0] d) 3);obtain ⟨n2,p2⟩:=Na (wq.alloc (.cells (madeCells #[.int .i64 0] d) 3)) (.cells LZ 65);have b1:=bL hd1 n1;have b2:=bL b1 n2;have HW1:=hid (Nat.le_trans HWQ.out n1.size);have HW2:=hid (Nat.le_trans HWQ3.out n1.size);have hlt:=lh p1;have p3:=rK p1 n2;go_simp;refine hK.out _ _ (b1) (fun _=>?_)
     clear hK K;(try simp only [Act.put,P1,pu,P3]);obtain ⟨gB,hgB⟩:∃ x,x=wq.heap.size:=⟨_,rfl⟩
     rw [<- hgB] at hlt p1 p3 HWQ HWQ3;rw [<- hgB];have hbt:=(show Tryz.prog.built 65 [(0,.int .i64 (k:Int)),(2,.int .i64 ty.t.frm),(3,.int .i64 ty.t.opn),(6,.slice (some ⟨gB,0,none⟩) d d)]=some (#[.int .i64 (k:Int),.slice none 0 0,.int .i64 ty.t.frm,.int .i64 ty.t.opn,.int .i64 0,.int .i64 0,.slice (some ⟨gB,0,none⟩) d d,.int .i64 0,.int .i64 0]) by kernel_rfl)
     refine Tv 9 (v:=?_) ?_ ?_;rotate_left
     ·(intro w hSw;go_simp;(try with_reducible rfl))
     (try simp only [Act.put,P1,pu,P3]);clear hbt;refine one 10 (fun K hK=>?_);refine Wg (by rfl) ?_;refine Wa 65 rfl LZ (by kernel_rfl) ?_;refine hK.out _ _ (b2) (fun _=>?_);clear hK K;(try simp only [Act.put,P1,pu,P3]);obtain ⟨g8,hg8⟩:∃ x,x=gB+1:=⟨_,rfl⟩
     have hsz:(wq.alloc (.cells (madeCells #[.int .i64 0] d) 3)).heap.size=g8:=by rw [hg8,hgB];simp
     rw [hsz] at p2 hlt HW1 HW2;(try rw [hsz]);(try rw [<- hgB]);(try rw [<- hg8]);clear hsz hg8 hgB;generalize (wq.alloc (.cells (madeCells #[.int .i64 0] d) 3)).alloc (.cells LZ 65)=wr at *;have pL:wr.heap[g8]? = some (.cells LZ 65):=p2;have pI:wr.heap[gB]? = some (.cells (madeCells #[.int .i64 0] d) 3):=p3;have hne:g8≠gB:=by omega
     have hR:(wr.setRow g8 #[.int .i64 (k:Int),.slice none 0 0,.int .i64 ty.t.frm,.int .i64 ty.t.opn,.int .i64 0,.int .i64 0,.slice (some ⟨gB,0,none⟩) d d,.int .i64 0,.int .i64 0]).heap[g8]? = some (.cells #[.int .i64 (k:Int),.slice none 0 0,.int .i64 ty.t.frm,.int .i64 ty.t.opn,.int .i64 0,.int .i64 0,.slice (some ⟨gB,0,none⟩) d d,.int .i64 0,.int .i64 0] 65):=setRow_heap _ _ _ _ _ _ pL
     have hRB:Below w3.heap.size w3 (wr.setRow g8 #[.int .i64 (k:Int),.slice none 0 0,.int .i64 ty.t.frm,.int .i64 ty.t.opn,.int .i64 0,.int .i64 0,.slice (some ⟨gB,0,none⟩) d d,.int .i64 0,.int .i64 0]):=below_setRow b2 HW2.out _
     have hRI:(wr.setRow g8 #[.int .i64 (k:Int),.slice none 0 0,.int .i64 ty.t.frm,.int .i64 ty.t.opn,.int .i64 0,.int .i64 0,.slice (some ⟨gB,0,none⟩) d d,.int .i64 0,.int .i64 0]).heap[gB]? = some (.cells (ints (List.replicate d 0)).toArray 3):=by rw [setRow_other _ _ _ _ hne.symm,pI,mI]
     refine one 11 (fun K hK=>?_);refine Wg (by rfl) ?_;refine wp_store_row 65 _ _ rfl g8 #[.int .i64 (k:Int),.slice none 0 0,.int .i64 ty.t.frm,.int .i64 ty.t.opn,.int .i64 0,.int .i64 0,.slice (some ⟨gB,0,none⟩) d d,.int .i64 0,.int .i64 0] rfl rfl 65 _ pL (by kernel_rfl) rfl (by kernel_rfl) ?_;refine hK.out _ _ (hRB) (fun _=>?_);clear hK K;(try simp only [Act.put])
     generalize wr.setRow g8 #[.int .i64 (k:Int),.slice none 0 0,.int .i64 ty.t.frm,.int .i64 ty.t.opn,.int .i64 0,.int .i64 0,.slice (some ⟨gB,0,none⟩) d d,.int .i64 0,.int .i64 0]=wz at *;refine wpAnyH_done (by kernel_rfl) ?_ _;go_wp2_with fail;go_meet;exact ⟨_,_,rfl,HW1.out,by rw [mkS_row];exact hR,own_madeR (oM (n:=d) hRI HWQ.out List.length_replicate (by unfold maxLen;omega)),hRB⟩
    ·skip
     obtain ⟨n1,p1⟩:=Na wq (.cells LZ 65);obtain ⟨n2,p2⟩:=Na (wq.alloc (.cells LZ 65)) (.cells (madeCells #[.int .i64 0] d) 3);have b1:=bL hd1 n1;have b2:=bL b1 n2;have HW1:=hid (Nat.le_trans HWQ.out n1.size);have HW2:=hid (Nat.le_trans HWQ3.out n1.size);have hlt:=lh p1;have p3:=rK p1 n2;refine Wg (by rfl) ?_
     refine Wa 65 rfl LZ (by kernel_rfl) ?_;refine hK.out _ _ (b1) (fun _=>?_);clear hK K;(try simp only [Act.put,P1,pu,P3]);obtain ⟨g8,hg8⟩:∃ x,x=wq.heap.size:=⟨_,rfl⟩
     rw [<- hg8] at hlt p1 p3 HWQ HWQ3;rw [<- hg8];refine one 8 (fun K hK=>?_);go_simp;refine hK.out _ _ (b2) (fun _=>?_);clear hK K;(try simp only [Act.put,P1,pu,P3]);obtain ⟨gB,hgB⟩:∃ x,x=g8+1:=⟨_,rfl⟩
     have hsz:(wq.alloc (.cells LZ 65)).heap.size=gB:=by rw [hgB,hg8];simp
     rw [hsz] at p2 hlt HW1 HW2;(try rw [hsz]);(try rw [<- hg8]);(try rw [<- hgB]);clear hsz hgB hg8
     have hbt:=(show Tryz.prog.built 65 [(0,.int .i64 (k:Int)),(2,.int .i64 ty.t.frm),(3,.int .i64 ty.t.opn),(6,.slice (some ⟨gB,0,none⟩) d d)]=some (#[.int .i64 (k:Int),.slice none 0 0,.int .i64 ty.t.frm,.int .i64 ty.t.opn,.int .i64 0,.int .i64 0,.slice (some ⟨gB,0,none⟩) d d,.int .i64 0,.int .i64 0]) by kernel_rfl)
     refine Tv 9 (v:=?_) ?_ ?_;rotate_left
     ·(intro w hSw;go_simp;(try with_reducible rfl))
     (try simp only [Act.put,P1,pu,P3]);clear hbt;generalize (wq.alloc (.cells LZ 65)).alloc (.cells (madeCells #[.int .i64 0] d) 3)=wr at *;have pL:wr.heap[g8]? = some (.cells LZ 65):=p3;have pI:wr.heap[gB]? = some (.cells (madeCells #[.int .i64 0] d) 3):=p2;have hne:g8≠gB:=by omega
     have hR:(wr.setRow g8 #[.int .i64 (k:Int),.slice none 0 0,.int .i64 ty.t.frm,.int .i64 ty.t.opn,.int .i64 0,.int .i64 0,.slice (some ⟨gB,0,none⟩) d d,.int .i64 0,.int .i64 0]).heap[g8]? = some (.cells #[.int .i64 (k:Int),.slice none 0 0,.int .i64 ty.t.frm,.int .i64 ty.t.opn,.int .i64 0,.int .i64 0,.slice (some ⟨gB,0,none⟩) d d,.int .i64 0,.int .i64 0] 65):=setRow_heap _ _ _ _ _ _ pL
     have hRB:Below w3.heap.size w3 (wr.setRow g8 #[.int .i64 (k:Int),.slice none 0 0,.int .i64 ty.t.frm,.int .i64 ty.t.opn,.int .i64 0,.int .i64 0,.slice (some ⟨gB,0,none⟩) d d,.int .i64 0,.int .i64 0]):=below_setRow b2 HWQ3.out _
     have hRI:(wr.setRow g8 #[.int .i64 (k:Int),.slice none 0 0,.int .i64 ty.t.frm,.int .i64 ty.t.opn,.int .i64 0,.int .i64 0,.slice (some ⟨gB,0,none⟩) d d,.int .i64 0,.int .i64 0]).heap[gB]? = some (.cells (ints (List.replicate d 0)).toArray 3):=by rw [setRow_other _ _ _ _ hne.symm,pI,mI]
     refine one 11 (fun K hK=>?_);refine Wg (by rfl) ?_;refine wp_store_row 65 _ _ rfl g8 #[.int .i64 (k:Int),.slice none 0 0,.int .i64 ty.t.frm,.int .i64 ty.t.opn,.int .i64 0,.int .i64 0,.slice (some ⟨gB,0,none⟩) d d,.int .i64 0,.int .i64 0] rfl rfl 65 _ pL (by kernel_rfl) rfl (by kernel_rfl) ?_;refine hK.out _ _ (hRB) (fun _=>?_);clear hK K;(try simp only [Act.put])
     generalize wr.setRow g8 #[.int .i64 (k:Int),.slice none 0 0,.int .i64 ty.t.frm,.int .i64 ty.t.opn,.int .i64 0,.int .i64 0,.slice (some ⟨gB,0,none⟩) d d,.int .i64 0,.int .i64 0]=wz at *;refine wpAnyH_done (by kernel_rfl) ?_ _;go_wp2_with fail;go_meet;exact ⟨_,_,rfl,HWQ.out,by rw [mkS_row];exact hR,own_madeR (oM (n:=d) hRI HW1.out List.length_replicate (by unfold maxLen;omega)),hRB⟩
   case rest =>
    rename World=>w4;obtain ⟨g8,B0,rfl,hg8,hrow8,hown8,hb4⟩:=hcut;have HG8:=hid hg8;have HB4:=hid (bL HB3.out hb4);have HK4:=hid (rK HK3.out hb4);have HQ4:=hid (rK HQ3.out hb4);have HR8:=hid hrow8;have HO8:=hid hown8;clear hg8 hrow8 hown8 hb4 HK3 HQ3 HB3 hgt;go_wp2_with fail;refine (HMEM.out w4).mono ?_;rintro e w5 ⟨VA,vc,rfl,hown,hb5⟩
    have HOW:=hid hown;have HCP:=hid (OR.cap hown);have HB5:=hid (bL HB4.out hb5);have HK5:=hid (rK HK4.out hb5);have HQ5:=hid (rK HQ4.out hb5);have HR5:=hid (rK HR8.out hb5);have HO5:=hid (OR.below HO8.out hb5);have hlen:=mK s 63;obtain ⟨l,hl⟩:∃ l,l=MS s:=⟨_,rfl⟩
    have hlen:l.length<=63:=by rw [hl];exact hlen
    rw [<- hl] at HOW HCP HLT;rw [<- hl];have HL:=hid hl;have HDD:=hid (show d=dV m.v by have h1:=HTX.out.cap;have h2:=HD.out;omega);clear hown hb5 HK4 HQ4 HR8 HO8 HB4 hl HMEM;go_wp2_with fail
    go_loopw [51] (fun j wr=>∃ (i:Nat) (BQ:Option Addr) (c:Nat),i<=l.length/\j=.int .i64 i/\wr.heap[g8]? = some (.cells (mkS ty.t (k:Int) BQ c (lK m.v (l.take i)) (oK m.v (l.take i))).cells.toArray 65)/\Ao wr w.heap.size BQ c (lK m.v (l.take i))/\(∀ q (h:q<l.length),q<i->AB ty.t (Sf m.v l[q])=true)/\FR w.heap.size [65] w5 wr) (fun j _=>l.length - (intOf j).toNat)
    case atStart=>exact ⟨0,B0,d,Nat.zero_le _,rfl,by rw [List.take_zero,loadK_nil,<- HDD.out];exact HR5.out,by rw [List.take_zero,loadK_nil,<- HDD.out];exact HO5.out,fun q _ h=>absurd h (Nat.not_lt_zero _),FR.refl _ _ _⟩
    case round =>
     clear HR5 HO5;obtain ⟨i,BQ,c,hi,rfl,hrow,hown,hno,hfr⟩:=hrel;have HR:=hid hrow;have HO:=hid hown;have HNO:=hid hno;have HF:=hid hfr;have HB:=hid (HB5.out.trans hfr.bel);have HSR:=hid HB.out.size;have HKR:=hid (hfr.kt.row _ _ _ _ HK5.out (by decide));have HQR:=hid (hfr.kt.row _ _ _ _ HQ5.out (by decide))
     have HMO:=hid (OR.cells (OR.keptT HOW.out hfr.kt (by decide)));have HLK:=hid (loadK_ok HOK.out (l.take i) fun a ha=>by have:=HLT.out a (List.mem_of_mem_take ha);rw [oL];exact this);have HOP:=hid (openK_lt (x:=m.v) (l.take i) fun a ha=>by have:=HLT.out a (List.mem_of_mem_take ha);omega);clear hrow hown hno hfr;by_cases hlt:i<l.length
     ·have hlt1:(i:Int)<(l.length:Int):=by omega
      obtain ⟨g1,o1,hA1,hg1,hx1⟩:=HMO.out (by rw [il];omega);have x0:=hx1 i _ (iK l i hlt);have hu:=HLT.out _ (List.getElem_mem hlt)
      have HNEXT:=hid (show AB ty.t (Sf m.v l[i])=true->∀ q (h:q<l.length),q<i+1->AB ty.t (Sf m.v l[q])=true from fun h q hq hqi=>by
       by_cases e:q=i
       ·subst e;exact h
       ·exact HNO.out q hq (by omega))
      have HBADS:=hid (show AB ty.t (Sf m.v l[i])=false->aS m.v ty.t s=false from fun h=>by
       unfold aS;rw [<- HL.out,List.all_eq_false];exact ⟨_,List.getElem_mem hlt,by rw [h];simp⟩)
      have HTKE:=hid (Ts hlt);rw [hA1];clear hx1 hA1;obtain ⟨u,hu2⟩:∃ u,u=l[i]:=⟨_,rfl⟩
      rw [<- hu2] at x0 hu HNEXT HBADS HTKE;clear hu2;obtain ⟨o,ho⟩:∃ o:Nat,u=(o:Int):=⟨u.toNat,by omega⟩
      subst ho;have hol1:o<m.ords.length:=by omega
      have hol2:(o:Int)<(m.ords.length:Int):=by omega
      go_upto_region 8 with fail;obtain ⟨go,oo,hOA,hgo,hoc⟩:=eP OM.cells_len (by decide) (HM.out wr HB.out).ords (by omega);have HOC:=hid (fun j v h=>hoc o hol1 j v h);have q3:=CX HKR.out 3 (.slice m.oA m.ords.length m.oc) rfl;rw [hOA] at q3;have HAB:=hid (fun (w':World)=>fA ty m.ords[o].o.skills w' HTX.out.skills.1 (HSK.out o hol1));have HSKO:=hid (si hol1)
      have HPK:=hid (pickNeg_in hol1);have HLOF:=hid (Ln hol1);have HLO:=hid (lk HOK.out (i:=(o:Int)) (by omega) (by rw [oL];omega));have HOAT:=hid (fun w' (hb:Below w.heap.size w w')=>(HM.out w' hb).ordE _ (List.getElem_mem hol1));obtain ⟨om,hom⟩:∃ om,om=m.ords[o]:=⟨_,rfl⟩
      rw [<- hom] at HOC HAB HSKO HPK HLOF HOAT;clear hom hoc hOA;obtain ⟨_,pw6⟩:=Na wr (.cells #[.string (B []),.slice none 0 0,.int .i64 0,.int .i64 0,.int .i64 0,.int .i64 0,.int .i64 0,.int .i64 0,.int .i64 0,.int .i64 0,.int .i64 0,.int .i64 0,.int .i64 0,.int .i64 0,.int .i64 0,.bool false] 136)
      obtain ⟨q5,b5⟩:=nS wr #[.string (B []),.slice none 0 0,.int .i64 0,.int .i64 0,.int .i64 0,.int .i64 0,.int .i64 0,.int .i64 0,.int .i64 0,.int .i64 0,.int .i64 0,.int .i64 0,.int .i64 0,.int .i64 0,.int .i64 0,.bool false] om.cells.toArray 136
      go_upto_region 9 with (first | (refine wL rfl 136 _ rfl go (oo+o*16) rfl om.cells _ HOC.out Tryz.underlying136 rfl (by kernel_rfl) ?_) | (refine sw om.cells.toArray pw6 ?_))
      (try simp only [Act.put]);generalize (wr.alloc (.cells #[.string (B []),.slice none 0 0,.int .i64 0,.int .i64 0,.int .i64 0,.int .i64 0,.int .i64 0,.int .i64 0,.int .i64 0,.int .i64 0,.int .i64 0,.int .i64 0,.int .i64 0,.int .i64 0,.int .i64 0,.bool false] 136)).setRow wr.heap.size om.cells.toArray=w6 at *;have HB6:=hid (HB.out.trans (b5.mono HSR.out))
      have HF6:=hid (HF.out.trans (FR.below (ts:=[65]) b5 HSR.out));have HR6:=hid (rK HR.out b5);have HO6:=hid (OR.below HO.out b5);have HQ6:=hid (rK HQR.out b5);have HP6:=hid q5;have HNE6:=hid (show g8≠wr.heap.size from Nat.ne_of_lt (lh HR.out));obtain ⟨h11,hh11⟩:∃ h11,h11=wr.heap.size:=⟨_,rfl⟩
      rw [<- hh11] at HP6 HNE6;rw [<- hh11];clear hh11 pw6 q5 b5 q3 HR HO HKR HQR HMO HF HB HOC hgo x0;have y10:=CX HP6.out 10 (.int .i64 om.o.skills) rfl;go_wp2_with (refine lr HQ6.out Tryz.underlying81 ?_)
      refine (HAB.out w6).mono ?_;rintro e w7 ⟨rfl,hb7⟩;have HSZ6:=hid HB6.out.size;have HB7:=hid (bL HB6.out hb7);have HF7:=hid (HF6.out.trans (FR.below (ts:=[65]) hb7 HSZ6.out));have HR7:=hid (rK HR6.out hb7);have HO7:=hid (OR.below HO6.out hb7);have HP7:=hid (rK HP6.out hb7);clear hb7 y10 HB6 HF6 HR6 HO6 HP6 HQ6 HAB
      cases hab:AB ty.t om.o.skills with
      |false =>
       have HE:=hid (show SL m.v m.types[k].t (k:Int) s=[] by rw [<- HTY.out,HST2.out,HBADS.out (by rw [HSKO.out];exact hab)];simp);clear hab HNEXT HBADS;go_wp2_with fail;go_ret;exact LE.none HE.out HB7.out
      |true =>
       have HN:=hid (HNEXT.out (by rw [HSKO.out];exact hab));have y2:=CX HP7.out 2 (.int .i64 om.o.pick.place) rfl;clear hab HNEXT HBADS;by_cases hpk:om.o.pick.place<0
       ·have hpkb:decide (om.o.pick.place<0)=true:=decide_eq_true hpk
        have HKS:=hid (show lK m.v (l.take (i+1))=aD (lK m.v (l.take i)) om.o.load by rw [HTKE.out,LK,HPK.out,hpkb,if_pos rfl,HLOF.out]);have HOS:=hid (show oK m.v (l.take (i+1))=oK m.v (l.take i) ||| 1 <<< o by rw [HTKE.out,OK,HPK.out,hpkb,if_pos rfl,Int.toNat_natCast]);rw [HLOF.out] at HLO;obtain ⟨K,hK⟩:∃ K,K=lK m.v (l.take i):=⟨_,rfl⟩
        rw [<- hK] at HR7 HO7 HLK HKS;obtain ⟨op,hop⟩:∃ op,op=oK m.v (l.take i):=⟨_,rfl⟩
        rw [<- hop] at HR7 HOP HOS;have HOP8:=hid (show op<8 from HOP.out);have hlt63:(l.take i).length<=63:=by rw [List.length_take];omega
        have HADD:=hid (Cf K om.o.load BQ om.A c om.ca w7 (OR.cells HO7.out) (HOAT.out w7 HB7.out).load (OR.cap HO7.out) (HOAT.out w7 HB7.out).ll (HLK.out.len.trans HLO.out.len.symm) (by rw [HLK.out.len];exact df HOK.out) (HLK.out.bnd.mono (by omega)) (HLO.out.bnd.mono (by omega)));clear hK hop hpkb;have y1:=CX HP7.out 1 (.slice om.A om.o.load.length om.ca) rfl
        have x6:=CX HR7.out 6 (.slice BQ K.length c) rfl;go_wp2_with fail;refine HADD.out.mono ?_;rintro e w8 ⟨B8,c8,rfl,hown8,hb8⟩;have HSZ7:=hid HB7.out.size;have HB8:=hid (bL HB7.out hb8);have HF8:=hid (HF7.out.trans (FR.below (ts:=[65]) hb8 HSZ7.out));have HR8:=hid (rK HR7.out hb8);have HO8:=hid (hown8.mono HSZ7.out)
        have x6:=CX HR8.out 6 (.slice BQ K.length c) rfl;have f6:=fz HR8.out 6;clear hown8 hb8 HADD y1 y2 HR7 HO7 HF7 HB7 HP7;go_upto_region 13 with fail;(try simp only [Act.put]);have HR9:=hid (show (w8.setCell ⟨g8,6,none⟩ (.slice B8 (aD K om.o.load).length c8)).heap[g8]? = some (.cells (mkS ty.t (k:Int) B8 c8 (aD K om.o.load) op).cells.toArray 65) by rw [Hp HR8.out];rfl)
        have hk9:KT [65] w8 (w8.setCell ⟨g8,6,none⟩ (.slice B8 (aD K om.o.load).length c8)):=KT.store HR8.out (by decide);have HO9:=hid (OR.keptT HO8.out hk9 (by decide));have HF9:=hid (show FR w.heap.size [65] w5 (w8.setCell ⟨g8,6,none⟩ (.slice B8 (aD K om.o.load).length c8)) from ⟨HF8.out.bel.setCell (p:=⟨g8,6,none⟩) HG8.out _,HF8.out.kt.trans hk9⟩);clear hk9 x6 f6 HR8 HO8 HF8
        generalize w8.setCell ⟨g8,6,none⟩ (.slice B8 (aD K om.o.load).length c8)=w9 at *;have x8:=CX HR9.out 8 (.int .i64 (op:Int)) rfl;have f8:=fz HR9.out 8;have HORB:=hid (or_bit op HOP8.out o (by omega));go_wp2_with fail;rw [HORB.out]
        have HR10:=hid (show (w9.setCell ⟨g8,8,none⟩ (.int .i64 ((op ||| 1 <<< o:Nat):Int))).heap[g8]? = some (.cells (mkS ty.t (k:Int) B8 c8 (aD K om.o.load) (op ||| 1 <<< o)).cells.toArray 65) by rw [Hp HR9.out];rfl);have hk10:KT [65] w9 (w9.setCell ⟨g8,8,none⟩ (.int .i64 ((op ||| 1 <<< o:Nat):Int))):=KT.store HR9.out (by decide)
        have HO10:=hid (OR.keptT HO9.out hk10 (by decide));have HF10:=hid (show FR w.heap.size [65] w5 (w9.setCell ⟨g8,8,none⟩ (.int .i64 ((op ||| 1 <<< o:Nat):Int))) from ⟨HF9.out.bel.setCell (p:=⟨g8,8,none⟩) HG8.out _,HF9.out.kt.trans hk10⟩);clear hk10 x8 f8 HR9 HO9 HF9;generalize w9.setCell ⟨g8,8,none⟩ (.int .i64 ((op ||| 1 <<< o:Nat):Int))=w10 at *;go_roundw
        case rel=>exact ⟨i+1,B8,c8,by omega,by go_num,by rw [HKS.out,HOS.out];exact HR10.out,by rw [HKS.out];exact HO10.out,HN.out,HF10.out⟩
        case measure=>simp [intOf];omega
       ·have hpkb:decide (om.o.pick.place<0)=false:=decide_eq_false hpk
        have HKS:=hid (show lK m.v (l.take (i+1))=lK m.v (l.take i) by rw [HTKE.out,LK,HPK.out,hpkb];rfl);have HOS:=hid (show oK m.v (l.take (i+1))=oK m.v (l.take i) by rw [HTKE.out,OK,HPK.out,hpkb];rfl);have hpk2:0<=om.o.pick.place:=by omega
        go_wp2_with fail;go_roundw
        case rel=>exact ⟨i+1,BQ,c,by omega,by go_num,by rw [HKS.out,HOS.out];exact HR7.out,by rw [HKS.out];exact HO7.out,HN.out,HF7.out⟩
        case measure=>simp [intOf];omega
     ·have hlt1:¬ (i:Int)<(l.length:Int):=by omega
      have HAS:=hid (show aS m.v ty.t s=true by
       unfold aS;rw [<- HL.out,List.all_eq_true];intro a ha;obtain ⟨q,hq,rfl⟩:=List.getElem_of_mem ha;exact HNO.out q hq (by omega))
      have htake:l.take i=MS s:=by rw [List.take_of_length_le (by omega),HL.out]
      rw [htake] at HR HO HLK;have HLO:=hid (show LO m.v 63000 (lO m.v s) from load0_ok HOK.out (by rw [oL];exact hs));have HLE:=hid (show lK m.v (MS s)=lO m.v s from rfl);have HOE:=hid (show oK m.v (MS s)=open0 m.v s from rfl);rw [HLE.out,HOE.out] at HR;rw [HLE.out] at HO;clear htake HLK HOP HNO HLE HOE
      have x6:=CX HR.out 6 (.slice BQ (lO m.v s).length c) rfl;have y4:=CX HQR.out 4 (.slice ty.A ty.t.cap.length ty.ca) rfl;have HFT:=hid (Ly (lO m.v s) ty.t.cap BQ ty.A c ty.ca wr (OR.cells HO.out) (HTYA.out wr HB.out).cap (OR.cap HO.out) (HTYA.out wr HB.out).cl (by have h1:=HLO.out.len;have h2:=HTX.out.cap;omega));go_wp2_with fail;refine HFT.out.mono ?_
      rintro e w6 ⟨rfl,hw⟩;obtain rfl:=hw.symm;clear x6 y4 HFT
      cases hft:fL (lO m.v s) ty.t.cap with
      |false =>
       have HE:=hid (show SL m.v m.types[k].t (k:Int) s=[] by rw [<- HTY.out,HST2.out,hft];simp);clear hft;go_wp2_with fail;go_ret;exact LE.none HE.out HB.out
      |true =>
       have HE:=hid (show SL m.v m.types[k].t (k:Int) s=WL ty.t (lb0 m.v ty.t (k:Int) s) by rw [<- HTY.out,HST2.out,hft,HAS.out];rfl);have hop:=HTT.out.opn;have hcl:=HTT.out.cls;have HWT:=hid (ly ty (mkS ty.t (k:Int) BQ c (lO m.v s) (open0 m.v s)) wr HTT.out.rest (show 0<=ty.t.opn/\ty.t.opn<=1000000 by omega) ⟨OR.nil _ _ _ _,OR.mono HO.out (Nat.zero_le _)⟩)
       clear hft hop hcl;go_wp2_with (first | (refine lr HQR.out Tryz.underlying81 ?_) | (refine lr HR.out Tryz.underlying65 ?_))
       refine HWT.out.mono ?_;rintro e wG ⟨RA,rc,ms,rfl,hrowG,heqG,hbG⟩;have HROW:=hid hrowG;have HEQ:=hid heqG;have HBG:=hid hbG;clear hrowG heqG hbG HWT;go_wp2_with fail;go_ret;exact ⟨RA,rc,ms,rfl,HROW.out.mono HB.out.size,HEQ.out.trans HE.out.symm,bL HB.out HBG.out⟩
end Go.Proofs.YtjcekdiocliddaaGreatDoor

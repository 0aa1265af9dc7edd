/- label.queue: push, size, pop. (Printed by wip/tk/mkToJ.py.) -/
import Derived.Test.YtjcekdiocliddaaGreatDoorToH
import Derived.Test.YtjcekdiocliddaaGreatDoorToI
namespace Go.Proofs.YtjcekdiocliddaaGreatDoor
open Lib (hid)
open Go.RowKit Num Txt Pf Tk
set_option maxHeartbeats 32000000
set_option maxRecDepth 100000
set_option linter.unusedVariables false
attribute [local go_sem] BS Bg Bt Bm Be Ba
def Bk (m:IM) (A:Option Addr) (n c:Nat) (f:Int):Array Value:=#[.slice A n c,.int .i64 f,.slice m.pA m.places.length m.pc,.slice m.aA m.arcs.length m.ac,.slice m.tA m.types.length m.tc,.slice m.oA m.ords.length m.oc,.slice m.xA m.apart.length m.xc,.slice m.bA m.before.length m.bc]
abbrev lts:List TypeId:=[65,113]
def But (g:Nat) (w w':World):Prop:=w.heap.size<=w'.heap.size/\∀ b,b<w.heap.size->b≠g->w'.heap[b]? = w.heap[b]?
theorem Ag.but {w w':World} {Bs gl:Nat} {A:Option Addr} {c:Nat} {ms:List Lb} {cs:Array Value} (h:Ag w Bs A c ms) (hb:But gl w w') (hg:w.heap[gl]? = some (.cells cs 113)):Ag w' Bs A c ms :=
 ⟨OR.keep h.row fun b hA=>hb.2 b (oH h.row _ hA).2 (fun e=>h.row.far hg (by decide) 0 none (by rw [hA,e])),fun k hk=>⟨OR.keep (h.each k hk).visO fun b hA=>hb.2 b (oH (h.each k hk).visO _ hA).2 (fun e=>OR.far (h.each k hk).visO hg (by decide) 0 none (by rw [hA,e])),OR.keep (h.each k hk).loadO fun b hA=>hb.2 b (oH (h.each k hk).loadO _ hA).2 (fun e=>OR.far (h.each k hk).loadO hg (by decide) 0 none (by rw [hA,e]))⟩⟩
structure LT (w:World) (Bs gl:Nat) (m:IM) (L:List Lb) (f:Nat):Prop where
 q:∃ A c,w.heap[gl]? = some (.cells (Bk m A L.length c (f:Int)) 113)/\Ag w Bs A c L
theorem LT.below {w w':World} {Bs gl:Nat} {m:IM} {L:List Lb} {f:Nat} (h:LT w Bs gl m L f) (hb:Below w.heap.size w w'):LT w' Bs gl m L f:=by
 obtain ⟨A,c,h1,h2⟩:=h.q;exact ⟨A,c,rK h1 hb,h2.below hb⟩
theorem lbs_nil {w:World} {Bs:Nat} {A:Option Addr} {c:Nat} {ms:List Lb} (h:Ag w Bs A c ms) (hA:A=none):c=0:=by
 rcases h.row.2 with ⟨hv,_⟩ | ⟨g,cap,cur,hv,_⟩
 ·injection hv
 ·injection hv with hv _ _
  rw [hA] at hv;cases hv
theorem lbs_one (ms:List Lb):∀ u ∈ ms.flatMap Lb.cells,u.oneCell'=true:=fun u hu=>by
 obtain ⟨m,_,hm⟩:=List.mem_flatMap.1 hu;simp [Lb.cells] at hm
 rcases hm with rfl | rfl | rfl | rfl | rfl | rfl | rfl | rfl | rfl <;> rfl
theorem qpush_any (m:IM) (gl Bs Bx:Nat) (L K:List Lb) (f:Nat) (X:Option Addr) (cx:Nat) (w:World) (hq:LT w Bs gl m L f) (hx:Ag w Bx X cx K) (hgl:Bs<=gl) (hB:Bs<=w.heap.size) (hlen:L.length+K.length<=100000) :
  Calls Tryz.prog 39 #[.pointer (some ⟨gl,0,none⟩),.slice X K.length cx] w fun e w'=>e=.returned (.tuple #[])/\LT w' Bs gl m (L ++ K) f/\FR Bs lts w w':=by
 obtain ⟨A,c,hrow,hown⟩:=hq.q;have HQ:=hid hrow;have HO:=hid hown;have HX:=hid hx;have HXN:=hid (fun h=>lbs_nil hx h);have x0:=CX hrow 0 (.slice A L.length c) rfl;have HG:=hid hgl;have HBS:=hid hB;clear hq hrow hown hx hgl hB;go_enter Tryz.func39,Tryz.ntmps39
 go_wp2_with (at_builtin;go_loud (refine wp_appmK el_lb rfl _ _ rfl Bs A L.length c (L.flatMap Lb.cells) w X K.length cx (K.flatMap Lb.cells) rfl HO.out.row rfl (OR.cells HX.out.row) HXN.out (by rw [fl Lb.cells Lb.cells_len]) (lbs_one K) (by unfold maxLen;omega) (by omega) HBS.out ?_;intro A4 c4 w4 hown4 hb4 hkp4;obtain ⟨hg4,o4,f4⟩:=app_row hkp4 HQ.out (HO.out.row.far HQ.out (by decide)) 0 (.slice A L.length c) rfl))
 have HS:=hid (KT.store (ts:=[113]) (j:=0) (v:=.slice A4 (L.length+K.length) c4) hg4 (by decide));have hrow2:(w4.setCell ⟨gl,0,none⟩ (.slice A4 (L.length+K.length) c4)).heap[gl]? = some (.cells (Bk m A4 (L ++ K).length c4 (f:Int)) 113):=by rw [Hp hg4,List.length_append];rfl
 have hk1:KT lts w w4:=KT.kpa hkp4 HO.out.row (by decide);have hk2:KT lts w4 (w4.setCell ⟨gl,0,none⟩ (.slice A4 (L.length+K.length) c4)):=KT.store hg4 (by decide);have hb5:Below Bs w (w4.setCell ⟨gl,0,none⟩ (.slice A4 (L.length+K.length) c4)):=hb4.setCell (p:=⟨gl,0,none⟩) HG.out _;go_end0;refine ⟨rfl,⟨A4,c4,hrow2,?_,fun k hk=>?_⟩,hb5,hk1.trans hk2⟩
 ·refine OR.keptT (ts:=[113]) ?_ HS.out (by decide)
  rw [List.length_append,List.flatMap_append];exact hown4
 ·rcases List.mem_append.1 hk with hk | hk
  ·exact ((HO.out.each k hk).kt hk1 (by decide) (by decide)).kt hk2 (by decide) (by decide)
  ·exact ((HX.out.each k hk).kt hk1 (by decide) (by decide)).kt hk2 (by decide) (by decide)
theorem qsize_any (m:IM) (gl Bs:Nat) (L:List Lb) (f:Nat) (w:World) (hq:LT w Bs gl m L f) (hf:f<=L.length) (hlen:L.length<=100000) :
  Calls Tryz.prog 41 #[.pointer (some ⟨gl,0,none⟩)] w fun e w'=>e=.returned (.int .i64 ((L.length - f:Nat):Int))/\Below w.heap.size w w':=by
 obtain ⟨A,c,hrow,hown⟩:=hq.q;have hcp:=OR.cap hown.row;have x0:=CX hrow 0 (.slice A L.length c) rfl;have x1:=CX hrow 1 (.int .i64 (f:Int)) rfl;have HE:=hid (show ((L.length - f:Nat):Int)=(L.length:Int) - (f:Int) by omega);unfold maxLen at hcp;clear hq hrow hown;go_enter Tryz.func41,Tryz.ntmps41;(try simp only [Bm]);go_upto_region 1 with fail;go_quiet (fail)
 go_wp2_with fail;go_ret;exact ⟨ri (by rw [HE.out]),below_drewN (Below.refl _ _) _⟩
theorem qpop_any (m:IM) (gl Bs:Nat) (L:List Lb) (f:Nat) (w:World) (hq:LT w Bs gl m L f) (hgl:Bs<=gl) (hB:Bs<=w.heap.size) (hf:f<L.length) (hlen:L.length<=100000) :
  Calls Tryz.prog 42 #[.pointer (some ⟨gl,0,none⟩)] w fun e w'=>e=.returned (.agg L[f].cells.toArray)/\LT w' Bs gl m L (f+1)/\FR Bs lts w w'/\But gl w w':=by
 obtain ⟨A,c,hrow,hown⟩:=hq.q;have hcp:=OR.cap hown.row;obtain ⟨nz,pz⟩:=Na w (.cells LZ 65);have HQ:=hid (rK hrow nz);have HO:=hid (hown.below nz);have HPZ:=hid pz;have HBZ:=hid nz;obtain ⟨g1,o1,hA1,hg1,hx1⟩:=eP Lb.cells_len (by decide) (OR.cells (hown.below nz).row) (by omega);have HXC:=hid (fun j v h=>hx1 f hf j v h);have HA1:=hid hA1
 have HAL:=hid (fun a ha=>(oH hown.row a ha).2);have HG1:=hid hg1;have HGL:=hid hgl;have HBS:=hid hB;have hf1:(f:Int)<(L.length:Int):=by omega
 unfold maxLen at hcp;clear hq hrow hown nz pz hx1 hA1 hg1 hgl hB;go_enter Tryz.func42,Tryz.ntmps42;(try simp only [Bm]);go_upto_region 1 with fail;generalize w.alloc (.cells LZ 65)=wa at *;obtain ⟨h2,hh2⟩:∃ h2,h2=w.heap.size:=⟨_,rfl⟩
 rw [<- hh2] at HPZ;rw [<- hh2];have HH2:=hid hh2;clear hh2;have hd:Below wa.heap.size wa wa.drew:=(Below.refl _ wa).drew;have hS0:(fun w'=>Below wa.heap.size wa w') wa.drew:=hd;refine wp_region_held_drew (S:=fun w'=>Below wa.heap.size wa w') (by kernel_rfl) hS0 (fun _=>?_);refine tk 0 ?_;refine tk 1 ?_;refine tk 2 ?_;(try simp only [Act.put,P1,pu,P3]);refine Tv 3 (v:=?_) ?_ ?_;rotate_left
 ·(intro w hSw;have q0:=CX (rK HQ.out hSw) 0 (.slice A L.length c) rfl;rw [HA1.out] at q0;go_simp;(try with_reducible rfl))
 refine tk 4 ?_;refine tk 5 ?_;refine tk 6 ?_;(try simp only [Act.put,P1,pu,P3]);refine tq 7 (fun w hSw=>CX (rK HQ.out hSw) 1 (.int .i64 (f:Int)) rfl) ?_;refine tk 8 ?_;(try simp only [Act.put,P1,pu,P3]);refine tkl 9 L[f].cells Tryz.underlying65 (fun w hSw=>fun j v h=>(hSw.cell (p:=⟨g1,o1+f*9+j,none⟩) HG1.out).trans (HXC.out j v h)) ?_;(try simp only [Act.put,P1,pu,P3])
 obtain ⟨nA,pA⟩:=Na wa.drew (.cells LZ 65);have hSA:Below wa.heap.size wa (wa.drew.alloc (.cells LZ 65)):=bL hd nA;refine one 10 (fun K hK=>?_);refine Wg (by rfl) ?_;refine Wa 65 rfl LZ (by kernel_rfl) ?_;refine hK.out _ _ (hSA) (fun _=>?_);clear hK K;(try simp only [Act.put,P1,pu,P3])
 have hrow3:((wa.drew.alloc (.cells LZ 65)).setRow wa.drew.heap.size L[f].cells.toArray).heap[wa.drew.heap.size]? = some (.cells L[f].cells.toArray 65):=setRow_heap _ _ _ _ _ _ pA;have HSB:=hid (show Below wa.heap.size wa ((wa.drew.alloc (.cells LZ 65)).setRow wa.drew.heap.size L[f].cells.toArray) from below_setRow hSA (Nat.le_refl _) _);refine one 11 (fun K hK=>?_)
 refine Wg (by rfl) ?_;refine wp_store_row 65 _ _ rfl wa.drew.heap.size L[f].cells.toArray rfl rfl 65 _ pA (by kernel_rfl) rfl (by kernel_rfl) ?_;refine hK.out _ _ (HSB.out) (fun _=>?_);clear hK K;(try simp only [Act.put]);refine wpAnyH_done (by kernel_rfl) ?_ _;have HQ2:=hid (rK HQ.out HSB.out);have HO2:=hid (HO.out.below HSB.out);have HPZ2:=hid (rK HPZ.out HSB.out)
 have HR2:=hid hrow3;have HB2:=hid (bL HBZ.out HSB.out);clear hrow3 pA nA hd hS0 hSA;generalize hw2:(wa.drew.alloc (.cells LZ 65)).setRow wa.drew.heap.size L[f].cells.toArray=w2 at *;clear hw2;obtain ⟨h3,hh3⟩:∃ h3,h3=wa.drew.heap.size:=⟨_,rfl⟩
 have HLT3:=hid (show h2<h3 by rw [hh3];exact lh HPZ.out);rw [<- hh3] at HR2;rw [<- hh3];clear hh3;have x1:=CX HQ2.out 1 (.int .i64 (f:Int)) rfl;have f1:=fz HQ2.out 1;go_upto_region 3 with fail;have hr4:(w2.setCell ⟨gl,1,none⟩ (.int .i64 ((f:Int)+1))).heap[gl]? = some (.cells (Bk m A L.length c ((f+1:Nat):Int)) 113):=by rw [Hp HQ2.out];rfl
 have hk4:KT [113] w2 (w2.setCell ⟨gl,1,none⟩ (.int .i64 ((f:Int)+1))):=KT.store HQ2.out (by decide);have HR4:=hid hr4;have HO4:=hid (show Ag (w2.setCell ⟨gl,1,none⟩ (.int .i64 ((f:Int)+1))) Bs A c L from ⟨OR.keptT HO2.out.row hk4 (by decide),fun k hk=>(HO2.out.each k hk).kt hk4 (by decide) (by decide)⟩);have HP4:=hid (hk4.row _ _ _ _ HPZ2.out (by decide))
 have HW4:=hid (hk4.row _ _ _ _ HR2.out (by decide));have HF4:=hid (show FR Bs lts w (w2.setCell ⟨gl,1,none⟩ (.int .i64 ((f:Int)+1))) from ⟨(HB2.out.mono HBS.out).setCell (p:=⟨gl,1,none⟩) HGL.out _,(KT.below HB2.out).trans (KT.store HQ2.out (by decide))⟩)
 have HBT:=hid (show But gl w (w2.setCell ⟨gl,1,none⟩ (.int .i64 ((f:Int)+1))) from ⟨by rw [World.size_setCell];exact HB2.out.size,fun b hb hne=>(Below.heap_setCell _ _ _ _ hne).trans (HB2.out.block b hb)⟩);clear hr4 hk4 x1 f1 HQ2 HO2 HPZ2 HR2 HB2;(try simp only [Act.put]);generalize w2.setCell ⟨gl,1,none⟩ (.int .i64 ((f:Int)+1))=w4 at *
 go_wp2_with (first | (refine lr HW4.out Tryz.underlying65 ?_) | (refine sw L[f].cells.toArray HP4.out ?_))
 have hq5:(w4.setRow h2 L[f].cells.toArray).heap[h2]? = some (.cells L[f].cells.toArray 65):=setRow_heap _ _ _ _ _ _ HP4.out;have hk5:KT [65] w4 (w4.setRow h2 L[f].cells.toArray):=KT.storeRow HP4.out (by decide);refine bodyPost_ret (Rr rfl (run_loadVar_row (P:=Tryz.prog) _ h2 65 65 _ _ _ hq5 Tryz.underlying65 rfl (by kernel_rfl)) rfl) rfl ?_
 refine ⟨rfl,⟨A,c,hk5.row _ _ _ _ HR4.out (by decide),?_⟩,HF4.out.trans ⟨below_setRow (Below.refl _ _) (by rw [HH2.out];exact HBS.out) _,KT.storeRow HP4.out (by decide)⟩,⟨by have:=HBT.out.1;simpa using this,fun b hb hne=>(setRow_other _ _ _ _ (by have h5:=HH2.out;omega)).trans (HBT.out.2 b hb hne)⟩⟩
 exact ⟨OR.keep HO4.out.row fun b hA=>setRow_other _ _ _ _ (by have h1:=HAL.out _ hA;have h5:=HH2.out;simp only at h1;omega),fun k hk=>((HO4.out.each k hk).kt hk5 (by decide) (by decide))⟩
def LineR (m:IM) (gl:Nat) (w:World):Prop:=∃ A n c f,w.heap[gl]? = some (.cells (Bk m A n c f) 113)
theorem line_x {m:IM} {A:Option Addr} {n c j:Nat} {f:Int} {v:Value} (h:[Value.slice m.pA m.places.length m.pc,.slice m.aA m.arcs.length m.ac,.slice m.tA m.types.length m.tc,.slice m.oA m.ords.length m.oc,.slice m.xA m.apart.length m.xc,.slice m.bA m.before.length m.bc][j]? = some v):(Bk m A n c f)[2+j]? = some v:=by
 match j,h with
 |0,h=>exact h
 |1,h=>exact h
 |2,h=>exact h
 |3,h=>exact h
 |4,h=>exact h
 |5,h=>exact h
 |j+6,h=>simp at h
theorem LT.rowR {w:World} {Bs gl:Nat} {m:IM} {L:List Lb} {f:Nat} (h:LT w Bs gl m L f):LineR m gl w:=by
 obtain ⟨A,c,h1,_⟩:=h.q;exact ⟨A,_,c,_,h1⟩
theorem LT.lbat {w:World} {Bs gl:Nat} {m:IM} {L:List Lb} {f:Nat} (h:LT w Bs gl m L f):∀ k ∈ L,Ah w k:=by
 obtain ⟨A,c,_,h2⟩:=h.q;exact h2.each
theorem advL_snoc (x:IV) (t:TV) (q:List LB) (a:LB) (v:Int × Bool):Cr x t (q ++ [a]) v=Cr x t q v ++ eL x t a v:=by unfold Cr;rw [List.flatMap_append];simp
def AdvE (m:IM) (t:TV) (gl Bs f:Nat) (L:List Lb) (v:Int × Bool) (w:World) (e:Ending) (w':World):Prop:=e=.returned (.tuple #[])/\∃ L2:List Lb,LT w' Bs gl m (L ++ L2) L.length/\L2.map (·.l)=Cr m.v t ((L.drop f).map (·.l)) v/\L2.length<=2*(L.length - f)/\FR Bs lts w w'
theorem ladvance_any (m:IM) (k gl Bs:Nat) (L:List Lb) (f:Nat) (v:Int × Bool) (w0 w:World) (hm:IA w0 m) (hok:IK m.v) (hml:m.ords.length<=3) (hT:Tb w0) (hk:k<m.types.length) (hb0:Below w0.heap.size w0 w) (hB0:w0.heap.size<=Bs) (hq:LT w Bs gl m L f) (hgl:Bs<=gl) (hB:Bs<=w.heap.size) (hf:f<=L.length) (hlen:L.length<=10000)
  (hL:∀ a ∈ L.drop f,Bj m.v m.types[k].t (k:Int) a.l/\a.l.vis.length<=7) (hv:0<=v.1/\v.1<(m.ords.length:Int)) :
  Calls Tryz.prog 40 #[.pointer (some ⟨gl,0,none⟩),.agg #[.int .i64 v.1,.bool v.2]] w (AdvE m m.types[k].t gl Bs f L v w):=by
 obtain ⟨n4,p4⟩:=Na w (.cells #[.int .i64 v.1,.bool v.2] 92);have HN4:=hid n4;have HP4:=hid p4;have HQ:=hid (hq.below n4);have HSZ:=hid (qsize_any m gl Bs L f _ (hq.below n4) hf (by omega));have HM:=hid (fun w' (hb:Below w0.heap.size w w')=>hm.below (hb0.trans hb));have HT:=hid (fun w' (hb:Below w0.heap.size w w')=>hT.below (hb0.trans hb));have HGL:=hid hgl
 have HBS:=hid hB;have HB0:=hid hB0;have HLL:=hid hL;have HEXT:=hid (fun (a:Lb) (w':World) (hb:Below w0.heap.size w w') (h:Bj m.v m.types[k].t (k:Int) a.l/\a.l.vis.length<=7) (hat:Ah w' a)=>lextend_any m k a v w' (hm.below (hb0.trans hb)) hok hml (hT.below (hb0.trans hb)) hk h.1 hat h.2 hv);clear n4 p4 hq hm hT hgl hB hL hok;go_enter Tryz.func40,Tryz.ntmps40
 (try simp only [Bm]);go_upto_region 1 with fail;generalize w.alloc (.cells #[.int .i64 v.1,.bool v.2] 92)=wa at *;obtain ⟨h3,hh3⟩:∃ h3,h3=w.heap.size:=⟨_,rfl⟩
 rw [<- hh3] at HP4;rw [<- hh3];clear hh3;go_wp2_with fail;refine HSZ.out.mono ?_;rintro e w1 ⟨rfl,hb1⟩;have HQ1:=hid (HQ.out.below hb1);have HP1:=hid (rK HP4.out hb1);have HF1:=hid (show FR Bs lts w w1 from FR.below (bL HN4.out hb1) HBS.out);have HB1S:=hid (Nat.le_trans HBS.out (bL HN4.out hb1).size);clear hb1 HSZ HQ HP4 HN4
 obtain ⟨N,hN⟩:∃ N,N=L.length - f:=⟨_,rfl⟩
 rw [<- hN];have hN2:f+N=L.length:=by omega
 have HN:=hid hN;clear hN;go_wp2_with fail;go_loopw [8] (fun j wr=>∃ (i:Nat) (L2:List Lb),i<=N/\j=.int .i64 i/\LT wr Bs gl m (L ++ L2) (f+i)/\L2.map (·.l)=Cr m.v m.types[k].t (((L.drop f).take i).map (·.l)) v/\L2.length<=2*i/\wr.heap[h3]? = some (.cells #[.int .i64 v.1,.bool v.2] 92)/\FR Bs lts w wr/\Bs<=wr.heap.size) (fun j _=>N - (intOf j).toNat)
 case atStart=>exact ⟨0,[],Nat.zero_le _,rfl,by rw [List.append_nil];exact HQ1.out,rfl,Nat.le_refl _,HP1.out,HF1.out,HB1S.out⟩
 case round =>
  clear HQ1 HP1 HF1 HB1S;obtain ⟨i,L2,hi,rfl,hq,heq,hl2,hp,hfr,hbs⟩:=hrel;have HQ:=hid hq;have HE:=hid heq;have HP:=hid hp;have HF:=hid hfr;have HBR:=hid hbs;clear hq heq hp hfr hbs;by_cases hlt:i<N
  ·have hlt1:(i:Int)<(N:Int):=by omega
   have hfi:f+i<(L ++ L2).length:=by rw [List.length_append];omega
   have hfi2:f+i<L.length:=by omega
   have hget:(L ++ L2)[f+i]=L[f+i]:=List.getElem_append_left hfi2
   have HTK:=hid (show (L.drop f).take (i+1)=(L.drop f).take i ++ [L[f+i]] by
    rw [Ts (by rw [List.length_drop];omega),List.getElem_drop])
   have HOKA:=hid (HLL.out L[f+i] (List.mem_drop_iff_getElem.2 ⟨i,by omega,rfl⟩));have hlen2:(L ++ L2).length<=100000:=by rw [List.length_append];omega
   have HPOP:=hid (fun w' (h:LT w' Bs gl m (L ++ L2) (f+i)) (hb:Bs<=w'.heap.size)=>qpop_any m gl Bs (L ++ L2) (f+i) w' h HGL.out hb hfi hlen2);have HMEM:=hid (show L[f+i] ∈ L ++ L2 from List.mem_append.2 (.inl (List.getElem_mem hfi2)));rw [hget] at HPOP;obtain ⟨u,hu⟩:∃ u,u=L[f+i]:=⟨_,rfl⟩
   rw [<- hu] at HPOP HTK HOKA HMEM;clear hget hu;go_upto_region 3 with fail;have hd:Below wr.heap.size wr wr.drew:=(Below.refl _ wr).drew;have hS0:(fun w'=>LineR m gl w'/\w'.heap[h3]? = some (.cells #[.int .i64 v.1,.bool v.2] 92)) wr.drew:=⟨HQ.out.rowR,HP.out⟩
   refine wp_region_held_drew (S:=fun w'=>LineR m gl w'/\w'.heap[h3]? = some (.cells #[.int .i64 v.1,.bool v.2] 92)) (by kernel_rfl) hS0 (fun _=>?_);refine tk 0 ?_;refine tk 1 ?_;refine tk 2 ?_;refine tk 3 ?_;(try simp only [Act.put,P1,pu,P3]);refine tk 4 ?_;refine tk 5 ?_;(try simp only [Act.put,P1,pu,P3])
   refine Tv 6 (v:=.agg ([.slice m.pA m.places.length m.pc,.slice m.aA m.arcs.length m.ac,.slice m.tA m.types.length m.tc,.slice m.oA m.ords.length m.oc,.slice m.xA m.apart.length m.xc,.slice m.bA m.before.length m.bc].toArray)) ?_ ?_
   ·(intro w hSw;obtain ⟨⟨A5,n5,c5,f5,h5⟩,_⟩:=hSw;exact yl_cells 30 _ rfl gl 2 rfl [.slice m.pA m.places.length m.pc,.slice m.aA m.arcs.length m.ac,.slice m.tA m.types.length m.tc,.slice m.oA m.ords.length m.oc,.slice m.xA m.apart.length m.xc,.slice m.bA m.before.length m.bc] _ Tryz.underlying30 rfl (by kernel_rfl) (fun j v h=>CX h5 (2+j) v (line_x h)))
   refine tk 7 ?_;refine tk 8 ?_;refine tk 9 ?_;(try simp only [Act.put,P1,pu,P3]);refine Tv 11 (v:=.agg #[.int .i64 v.1,.bool v.2]) ?_ ?_
   ·(intro w hSw;exact yl_row 92 _ rfl h3 rfl 92 _ _ Tryz.underlying92 rfl (by kernel_rfl) hSw.2)
   (try simp only [Act.put,P1,pu,P3]);refine one 10 (fun K hK=>?_);go_simp;refine (HPOP.out wr.drew (HQ.out.below hd) HBR.out).mono ?_;rintro e w2 ⟨rfl,hq2,hf2,_⟩;have HQ2:=hid hq2;have HF2:=hid ((HF.out.trans (FR.below hd HBR.out)).trans hf2);have HP2:=hid (hf2.kt.row _ _ _ _ (show wr.drew.heap[h3]? = _ from HP.out) (by decide));have HBS2:=hid (Nat.le_trans HBR.out hf2.kt.size)
   clear hq2 hf2;refine hK.out _ _ (⟨HQ2.out.rowR,HP2.out⟩) (fun _=>?_);clear hK K;(try simp only [Act.put,P1,pu,P3]);refine one 12 (fun K hK=>?_);go_simp;refine (HEXT.out u w2 (HF2.out.bel.mono HB0.out) HOKA.out (HQ2.out.lbat u HMEM.out)).mono ?_;rintro e w5 ⟨RA,rc,ms,rfl,hms,heq,hb5⟩;have HMS:=hid hms;have HEQ:=hid heq;have HQ5:=hid (HQ2.out.below hb5)
   have HF5:=hid (HF2.out.trans (FR.below hb5 HBS2.out));have HP5:=hid (rK HP2.out hb5);have HBS5:=hid (Nat.le_trans HBS2.out hb5.size);have HML:=hid (show ms.length<=2 by have h:=congrArg List.length HEQ.out;rw [List.length_map] at h;rw [h];exact ext_len _ _ _ _);clear hms heq hb5;refine hK.out _ _ (⟨HQ5.out.rowR,HP5.out⟩) (fun _=>?_);clear hK K
   (try simp only [Act.put,P1,pu,P3]);refine one 13 (fun K hK=>?_);go_simp;refine (qpush_any m gl Bs w2.heap.size (L ++ L2) ms (f+i+1) RA rc w5 HQ5.out HMS.out HGL.out HBS5.out (by have:=HML.out;rw [List.length_append];omega)).mono ?_;rintro e w6 ⟨rfl,hq6,hf6⟩;have HQ3:=hid (show LT w6 Bs gl m (L ++ L2 ++ ms) (f+(i+1)) from hq6);have HF3:=hid (HF5.out.trans hf6)
   have HP3:=hid (hf6.kt.row _ _ _ _ HP5.out (by decide));have HBS3:=hid (Nat.le_trans HBS5.out hf6.kt.size);clear hq6 hf6;refine hK.out _ _ (⟨HQ3.out.rowR,HP3.out⟩) (fun _=>?_);clear hK K;(try simp only [Act.put,P1,pu,P3]);refine wpAnyH_done (by kernel_rfl) ?_ _;go_wp2_with fail;go_roundw
   case rel=>exact ⟨i+1,L2 ++ ms,by omega,by go_num,by rw [<- List.append_assoc];exact HQ3.out,by rw [List.map_append,HE.out,HEQ.out,HTK.out,List.map_append];exact (advL_snoc _ _ _ _ _).symm,by rw [List.length_append];have:=HML.out;omega,HP3.out,HF3.out,HBS3.out⟩
   case measure=>simp [intOf];omega
  ·have hlt1:¬ (i:Int)<(N:Int):=by omega
   have HD:=hid (show (L.drop f).take i=L.drop f from List.take_of_length_le (by rw [List.length_drop];omega));have hiN:i=N:=by omega
   have HQF:=hid (show LT wr Bs gl m (L ++ L2) L.length by rw [<- hN2,<- hiN];exact HQ.out);have hl3:L2.length<=2*(L.length - f):=by omega
   clear hiN;go_wp2_with fail;go_end0;exact ⟨rfl,L2,HQF.out,by rw [HE.out,HD.out],hl3,HF.out⟩
end Go.Proofs.YtjcekdiocliddaaGreatDoor

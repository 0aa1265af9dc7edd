/- best.search.walk. (Printed by wip/tk/mkToP.py.) -/
import Derived.Test.YtjcekdiocliddaaGreatDoorToO
import Derived.Test.YtjcekdiocliddaaGreatDoorG91
import Derived.Deep.MidRow
namespace Go.Proofs.YtjcekdiocliddaaGreatDoor
open Lib (hid)
open Go.RowKit Num Txt Pf Tk
set_option maxHeartbeats 32000000
set_option maxRecDepth 100000
set_option linter.unusedVariables false
attribute [local go_sem] BS Bg Bt Bm Be Ba
def putA:Array Value->Nat->List Value->Array Value
 |cs,_,[]=>cs
 |cs,o,v :: r=>putA (cs.setIfInBounds o v) (o+1) r
theorem Sp {g:Nat} {e:TypeId} {z:Nat × Nat}:∀ (vs:List Value) (o:Nat) (w:World) (cs:Array Value),w.heap[g]? = some (.cells cs e z)->(w.setCells g o vs).heap[g]? = some (.cells (putA cs o vs) e z)
 |[],o,w,cs,h=>h
 |v :: r,o,w,cs,h=>by
  rw [World.setCells];exact Sp r (o+1) _ _ (Hp h)
theorem Cu {ts:List TypeId} {g:Nat} {e:TypeId} {z:Nat × Nat} (he:e ∈ ts):∀ (vs:List Value) (o:Nat) (w:World) (cs:Array Value),w.heap[g]? = some (.cells cs e z)->KT ts w (w.setCells g o vs)
 |[],o,w,cs,h=>KT.refl _ _
 |v :: r,o,w,cs,h=>by
  rw [World.setCells];exact (KT.store h he).trans (Cu he r (o+1) _ _ (Hp h))
theorem sC {g Bs:Nat} (hg:Bs<=g):∀ (vs:List Value) (o:Nat) (w:World),Below Bs w (w.setCells g o vs)
 |[],o,w=>Below.refl _ _
 |v :: r,o,w=>by
  rw [World.setCells];exact ((Below.refl Bs w).setCell (p:=⟨g,o,none⟩) hg v).trans (sC hg r (o+1) _)
theorem visit_ok {x:IV} (hok:IK x) {t:TV} (ht:TO t) {frm:Int} {s:St} (hs:SK s) {L:List (Int × Int)} (hL:∀ a ∈ L,StOK a):∀ a ∈ vL x t frm s L,StOK a:=by
 unfold vL;suffices h:∀ (L:List (Int × Int)) (out:List (Int × Int)),(∀ a ∈ L,StOK a)->(∀ a ∈ out,StOK a)->∀ a ∈ L.foldl (sS x t frm s) out,StOK a from h L [] hL (fun a h=>absurd h (by simp))
 intro L
 induction L with
 |nil=>intro out _ h;exact h
 |cons b L ih =>
  intro out hL ho;rw [List.foldl_cons];refine ih _ (fun a h=>hL a (List.mem_cons_of_mem _ h)) fun a ha=>?_;have hb:=hL b (List.mem_cons_self ..);unfold StOK at hb;unfold sS at ha;split at ha
  ·exact ho a ha
  split at ha
  ·exact ho a ha
  split at ha
  ·exact ho a ha
  ·rename_i h1 h2 h3
   have hg1:=goP_ge hok (x:=x) (prof:=t.prof) (frm:=frm) (tgt:=s.place) (t:=b.1) (by simpa using h1);have hg2:=GP hok t.prof frm s.place (t:=b.1) hb.1.1;generalize (gP x t.prof frm s.place b.1).1=y at *;have h5:=ht.rest;have h6:=ht.drive;have h7:=hs.ok
   have hd:0<=DV s y/\DV s y<=8192:=by
    have h8:=Sl hs;unfold dE at h3;unfold DV;split at h3
    ·exact absurd (by decide) h3
    ·rename_i h9
     rw [if_neg h9];omega
   rcases RL.1 ha with (ha | ha) | ha
   ·exact ho a ha
   ·subst ha
    exact ⟨⟨hd.1,by show DV s y<=20000;omega⟩,⟨by show (0:Int)<=b.2+y - b.1;omega,by show b.2+y - b.1<=4096;omega⟩⟩
   ·subst ha
    exact ⟨⟨by show (0:Int)<=DV s y+t.rest;omega,by show DV s y+t.rest<=20000;omega⟩,⟨Int.le_refl _,by show (0:Int)<=4096;omega⟩⟩
abbrev bS:List TypeId:=[98]
structure BsAt (m:IM) (k s t:Nat) (gs Bs:Nat) (c:CM) (f:Bool) (w:World):Prop where
 row:w.heap[gs]? = some (.cells (sr m (k:Int) (s:Int) (t:Int) c f) 98)
 vis:VO w Bs c.A c.c c.vis
theorem BsAt.below {m:IM} {k s t gs Bs:Nat} {c:CM} {f:Bool} {w w':World} (h:BsAt m k s t gs Bs c f w) (hb:Below w.heap.size w w'):BsAt m k s t gs Bs c f w':=⟨rK h.row hb,OR.below h.vis hb⟩
theorem BsAt.col {m:IM} {k s t gs Bs:Nat} {c:CM} {f:Bool} {w:World} (h:BsAt m k s t gs Bs c f w):CT w c:=⟨OR.cells h.vis,OR.cap h.vis⟩
theorem col_cells {m:IM} {k s t:Int} {c:CM} {f:Bool} {j:Nat} {v:Value} (h:(CR c).toList[j]? = some v):(sr m k s t c f)[9+j]? = some v:=by
 match j,h with
 |0,h=>exact h
 |1,h=>exact h
 |2,h=>exact h
 |3,h=>exact h
 |4,h=>exact h
 |5,h=>exact h
 |6,h=>exact h
 |j+7,h=>simp [CR] at h
theorem ins_cells {m:IM} {k s t:Int} {c:CM} {f:Bool} {j:Nat} {v:Value} (h:([.slice m.pA m.places.length m.pc,.slice m.aA m.arcs.length m.ac,.slice m.tA m.types.length m.tc,.slice m.oA m.ords.length m.oc,.slice m.xA m.apart.length m.xc,.slice m.bA m.before.length m.bc]:List Value)[j]? = some v):(sr m k s t c f)[0+j]? = some v:=by
 match j,h with
 |0,h=>exact h
 |1,h=>exact h
 |2,h=>exact h
 |3,h=>exact h
 |4,h=>exact h
 |5,h=>exact h
 |j+6,h=>simp at h
theorem rou_at {w:World} {k:Int} {A:Option Addr} {c:Nat} {l:List (Int × Bool)} (hk:fits k) (h:Cs w A (l.flatMap VC)) (hn:l.length<=c/\c<=maxLen) (hf:∀ v ∈ l,fits v.1):Rt w ⟨none,0,A,c,⟨k,0,[],l⟩⟩:=by
 exact ⟨fun h=>absurd h (by simp [bP]),h,⟨Nat.le_refl _,by show (0:Nat)<=maxLen;omega⟩,hn,hk,by show fits 0;unfold fits;omega,hf⟩
theorem there_row {w:World} {g o n:Nat} {cs:Array Value} {e:TypeId} (h:w.heap[g]? = some (.cells cs e)) (hn:o+n<=cs.size):w.there g o n:=fun j hj=>by
 have hlt:o+j<cs.size:=by omega
 exact ⟨by rw [CX h (o+j) cs[o+j] (by simp [hlt])];rfl,fz h _⟩
theorem put_col (m:IM) (k s t:Int) (c c2:CM) (f:Bool):putA (sr m k s t c f) 9 (CR c2).toList=sr m k s t c2 f:=by
 simp [putA,sr,CR]
def BWalkE (m:IM) (k s t gs Bs:Nat) (P:List (Int × Bool)->Prop) (w:World) (e:Ending) (w':World):Prop:=e=.returned (.tuple #[])/\∃ c f,BsAt m k s t gs Bs c f w'/\Sh m.v (k:Int) s P f c.price/\FR Bs bS w w'
theorem bwalk0_any (m:IM) (k s t gs Bs:Nat) (l:List (Int × Bool)) (A:Option Addr) (c:Nat) (frm:Int) (lv:Value) (P:List (Int × Bool)->Prop) (cm:CM) (f:Bool) (w0 w:World) (hm:IA w0 m) (hok:IK m.v) (hml:m.ords.length<=3) (hT:Tb w0) (hk:k<m.types.length)
  (hb0:Below w0.heap.size w0 w) (hB0:w0.heap.size<=Bs) (hgs:Bs<=gs) (hB:Bs<=w.heap.size) (hlt:l.length=t) (hl6:l.length<=6) (hmem:l ∈ sF m.v s (Ad m.v s) []) (hbs:BsAt m k s t gs Bs cm f w) (hsr:Sh m.v (k:Int) s P f cm.price) (hl:VO w Bs A c l) :
  Calls Tryz.prog 34 #[.pointer (some ⟨gs,0,none⟩),.slice A l.length c,.int .i64 frm,lv] w (BWalkE m k s t gs Bs (fun vs=>P vs∨vs=l) w):=by
 have HBS:=hid hbs;have HSR:=hid hsr;have HL:=hid hl;have HMEM:=hid hmem;have hcp:=OR.cap hl;have HM:=hid (fun w' (hb:Below w0.heap.size w0 w')=>hm.below hb);have HT:=hid (fun w' (hb:Below w0.heap.size w0 w')=>hT.below hb);have HOK:=hid hok;have HB0:=hid hb0;have HBB:=hid hB0;have HGS:=hid hgs;have HBW:=hid hB;have htl:=hm.tl
 have hlb:=iB (show (l.length:Int)=(t:Int) by omega);have x8:=CX hbs.row 8 (.int .i64 (t:Int)) rfl;have x6:=CX hbs.row 6 (.int .i64 (k:Int)) rfl;obtain ⟨nz,pz⟩:=Na w (.cells #[.int .i64 0,.int .i64 0,.slice none 0 0,.slice none 0 0] 34)
 obtain ⟨qn,bn⟩:=nS w #[.int .i64 0,.int .i64 0,.slice none 0 0,.slice none 0 0] (#[.int .i64 (k:Int),.int .i64 0,.slice none 0 0,.slice A l.length c]) 34;have HQN:=hid qn;have HBN:=hid bn;have HPZ:=hid pz;unfold maxLen at hcp htl;clear hbs hsr hl hmem hm hT hok hb0 hB0 hgs hB nz pz qn bn hlt;go_enter Tryz.func34,Tryz.ntmps34;(try simp only [Bm]);go_upto_region 1 with fail
 go_upto_region 2 with (first | (refine Wb rfl 34 _ rfl (#[.int .i64 (k:Int),.int .i64 0,.slice none 0 0,.slice A l.length c]) (by kernel_rfl) ?_) | (refine sw (#[.int .i64 (k:Int),.int .i64 0,.slice none 0 0,.slice A l.length c]) HPZ.out ?_))
 generalize (w.alloc (.cells #[.int .i64 0,.int .i64 0,.slice none 0 0,.slice none 0 0] 34)).setRow w.heap.size (#[.int .i64 (k:Int),.int .i64 0,.slice none 0 0,.slice A l.length c])=wa at *;obtain ⟨g8,hg8⟩:∃ g8,g8=w.heap.size:=⟨_,rfl⟩
 rw [<- hg8] at HQN;rw [<- hg8];clear hg8 HPZ x8 x6;have HBA:=hid (HBS.out.below HBN.out);have HR:=hid (HBA.out.row);have HW0:=hid (bL HB0.out HBN.out);have HSA:=hid (Nat.le_trans HBW.out HBN.out.size);have hd:Below wa.heap.size wa wa.drew:=(Below.refl _ wa).drew;have hS0:(fun w'=>Below wa.heap.size wa w') wa.drew:=hd
 have HLA:=hid (OR.below HL.out (HBN.out.trans (hd.mono HBN.out.size)))
 have HPR:=hid (rprice_any m ⟨none,0,A,c,⟨(k:Int),0,[],l⟩⟩ wa.drew (HM.out _ (bL HW0.out hd)) HOK.out hml (rou_at (by unfold fits;omega) (OR.cells HLA.out) (OR.cap HLA.out) (fun v hv=>by have h1:=(me.1 HMEM.out).2.rng v hv;rw [oL] at h1;unfold fits;omega)) (by show l.length<=8;omega) (HT.out _ (bL HW0.out hd)))
 refine wp_region_held_drew (S:=fun w'=>Below wa.heap.size wa w') (by kernel_rfl) hS0 (fun _=>?_);refine tk 0 ?_;refine tk 1 ?_;refine tk 2 ?_;(try simp only [Act.put,P1,pu,P3])
 refine tkl 3 [.slice m.pA m.places.length m.pc,.slice m.aA m.arcs.length m.ac,.slice m.tA m.types.length m.tc,.slice m.oA m.ords.length m.oc,.slice m.xA m.apart.length m.xc,.slice m.bA m.before.length m.bc] Tryz.underlying30 (fun w hSw=>fun j v h=>CX (rK HR.out hSw) (0+j) v (ins_cells h)) ?_;(try simp only [Act.put,P1,pu,P3])
 refine tkr 4 Tryz.underlying34 (fun w hSw=>rK HQN.out hSw) ?_;(try simp only [Act.put,P1,pu,P3]);refine one 5 (fun K hK=>?_);go_simp;refine HPR.out.mono ?_;rintro e w3 ⟨n,kk,rfl,hk1,hk2,hb3⟩;have hS3:Below wa.heap.size wa w3:=bL hd hb3;refine hK.out _ _ hS3 (fun _=>?_);clear hK K;refine tk 6 ?_;refine tk 7 ?_;refine tk 8 ?_;refine tk 9 ?_;(try simp only [Act.put,P1,pu,P3])
 refine tk 10 ?_;(try simp only [Act.put,P1,pu,P3]);refine wpAnyH_done (by kernel_rfl) ?_ _;have HB3:=hid (bL HBN.out hS3);have HBA3:=hid (HBA.out.below hS3);have HQ3:=hid (rK HQN.out hS3);have HK1:=hid hk1;have HK2:=hid hk2;clear hS3 hb3 hk1 hk2 hd hS0 HBA HR HPR HQN HBN HLA;by_cases hkk:kk=0
 ·have e1:(kk == 0)=true:=beq_iff_eq.2 hkk
  have HYES:=hid (HK1.out hkk);clear hkk;go_upto_region 4 with fail;have HR3:=hid HBA3.out.row;have hd:Below w3.heap.size w3 w3.drew:=(Below.refl _ w3).drew;have hS0:(fun w'=>Below w3.heap.size w3 w') w3.drew:=hd
  have hbt:=(show Tryz.prog.built 55 [(0,.int .i64 (k:Int)),(1,.int .i64 (s:Int)),(2,.int .i64 n),(3,.agg #[.int .i64 (k:Int),.int .i64 0,.slice none 0 0,.slice A l.length c])]=some #[.int .i64 (k:Int),.int .i64 (s:Int),.int .i64 n,.int .i64 (k:Int),.int .i64 0,.slice none 0 0,.slice A l.length c] by kernel_rfl)
  refine wp_region_held_drew (S:=fun w'=>Below w3.heap.size w3 w') (by kernel_rfl) hS0 (fun _=>?_);refine tk 0 ?_;refine tk 1 ?_;refine tk 2 ?_;refine tq 3 (fun w hSw=>CX (rK HR3.out hSw) 6 (.int .i64 (k:Int)) rfl) ?_;(try simp only [Act.put,P1,pu,P3]);refine tk 4 ?_;refine tk 5 ?_;refine tk 6 ?_;refine tq 7 (fun w hSw=>CX (rK HR3.out hSw) 7 (.int .i64 (s:Int)) rfl) ?_
  (try simp only [Act.put,P1,pu,P3]);refine tk 8 ?_;(try simp only [Act.put,P1,pu,P3]);refine tkr 9 Tryz.underlying34 (fun w hSw=>rK HQ3.out hSw) ?_;(try simp only [Act.put,P1,pu,P3]);refine Tv 10 (v:=?_) ?_ ?_;rotate_left
  ·(intro w hSw;skip;go_simp;(try with_reducible rfl))
  (try simp only [Act.put,P1,pu,P3]);obtain ⟨n5,p5⟩:=Na w3.drew (.cells CZ 55);have hSA:Below w3.heap.size w3 (w3.drew.alloc (.cells CZ 55)):=bL hd n5;refine one 11 (fun K hK=>?_);refine Wg (by rfl) ?_;refine Wa 55 rfl CZ (by kernel_rfl) ?_;refine hK.out _ _ hSA (fun _=>?_);clear hK K;(try simp only [Act.put,P1,pu,P3])
  have hrow5:((w3.drew.alloc (.cells CZ 55)).setRow w3.drew.heap.size #[.int .i64 (k:Int),.int .i64 (s:Int),.int .i64 n,.int .i64 (k:Int),.int .i64 0,.slice none 0 0,.slice A l.length c]).heap[w3.drew.heap.size]? = some (.cells #[.int .i64 (k:Int),.int .i64 (s:Int),.int .i64 n,.int .i64 (k:Int),.int .i64 0,.slice none 0 0,.slice A l.length c] 55):=setRow_heap _ _ _ _ _ _ p5
  have hSB:Below w3.heap.size w3 ((w3.drew.alloc (.cells CZ 55)).setRow w3.drew.heap.size #[.int .i64 (k:Int),.int .i64 (s:Int),.int .i64 n,.int .i64 (k:Int),.int .i64 0,.slice none 0 0,.slice A l.length c]):=below_setRow hSA (Nat.le_refl _) _;refine one 12 (fun K hK=>?_);refine Wg (by rfl) ?_
  refine wp_store_row 55 _ _ rfl w3.drew.heap.size #[.int .i64 (k:Int),.int .i64 (s:Int),.int .i64 n,.int .i64 (k:Int),.int .i64 0,.slice none 0 0,.slice A l.length c] rfl rfl 55 _ p5 (by kernel_rfl) rfl (by kernel_rfl) ?_;refine hK.out _ _ hSB (fun _=>?_);clear hK K;(try simp only [Act.put]);refine wpAnyH_done (by kernel_rfl) ?_ _;have HS5:=hid hSB;have HP5:=hid hrow5
  clear hSB hrow5 n5 p5 hSA hd hS0 hbt HR3;generalize (w3.drew.alloc (.cells CZ 55)).setRow w3.drew.heap.size #[.int .i64 (k:Int),.int .i64 (s:Int),.int .i64 n,.int .i64 (k:Int),.int .i64 0,.slice none 0 0,.slice A l.length c]=w5 at *;obtain ⟨g11,hg11⟩:∃ g11,g11=w3.drew.heap.size:=⟨_,rfl⟩
  rw [<- hg11] at HP5;rw [<- hg11];clear hg11;have HBA5:=hid (HBA3.out.below HS5.out);have HB5:=hid (bL HB3.out HS5.out);have HL5:=hid (OR.below HL.out HB5.out);clear HBA3 HB3 HS5 HQ3;go_upto_region 5 with fail;have hd:Below w5.heap.size w5 w5.drew:=(Below.refl _ w5).drew;have x16:=CX HBA5.out.row 16 (.bool f) rfl
  have HFI:=hid (first_any cm ⟨(k:Int),(s:Int),n,(k:Int),A,c,l⟩ f w5.drew (HBA5.out.below hd).col ⟨OR.cells (OR.below HL5.out hd),OR.cap HL5.out⟩);have hS0:(fun w'=>w'.heap[g11]? = some (.cells #[.int .i64 (k:Int),.int .i64 (s:Int),.int .i64 n,.int .i64 (k:Int),.int .i64 0,.slice none 0 0,.slice A l.length c] 55)/\w'.cell? ⟨gs,16,none⟩=some (.bool f)) w5.drew:=⟨HP5.out,x16⟩
  refine wp_region_held_drew (S:=fun w'=>w'.heap[g11]? = some (.cells #[.int .i64 (k:Int),.int .i64 (s:Int),.int .i64 n,.int .i64 (k:Int),.int .i64 0,.slice none 0 0,.slice A l.length c] 55)/\w'.cell? ⟨gs,16,none⟩=some (.bool f)) (by kernel_rfl) hS0 (fun _=>?_);refine tk 0 ?_;refine tk 1 ?_;refine tk 2 ?_;refine tk 3 ?_;(try simp only [Act.put,P1,pu,P3]);refine tk 5 ?_;refine tk 6 ?_
  refine tk 7 ?_;refine tq 8 (fun w hSw=>hSw.2) ?_;(try simp only [Act.put,P1,pu,P3]);refine Tv 9 (v:=.agg #[.int .i64 (k:Int),.int .i64 (s:Int),.int .i64 n,.int .i64 (k:Int),.int .i64 0,.slice none 0 0,.slice A l.length c]) ?_ ?_
  ·(intro w hSw;exact yl_row 55 _ rfl g11 rfl 55 _ _ Tryz.underlying55 rfl (by kernel_rfl) hSw.1)
  (try simp only [Act.put,P1,pu,P3]);refine one 4 (fun K hK=>?_);refine Wg (by rfl) ?_;refine Wl 55 _ rfl gs 9 rfl (CR cm).toList _ (fun j v h=>CX (show w5.drew.heap[gs]? = _ from HBA5.out.row) (9+j) v (col_cells h)) Tryz.underlying55 rfl (by kernel_rfl) ?_;refine hK.out _ _ hS0 (fun _=>?_);clear hK K;(try simp only [Act.put,P1,pu,P3]);refine one 10 (fun K hK=>?_)
  go_simp;refine HFI.out.mono ?_;rintro e w6 ⟨c2,rfl,hc2,hb6⟩;have hb56:=hd.trans (hb6.mono hd.size);have hS6:w6.heap[g11]? = some (.cells #[.int .i64 (k:Int),.int .i64 (s:Int),.int .i64 n,.int .i64 (k:Int),.int .i64 0,.slice none 0 0,.slice A l.length c] 55)/\w6.cell? ⟨gs,16,none⟩=some (.bool f):=⟨rK HP5.out hb56,CX (HBA5.out.below hb56).row 16 (.bool f) rfl⟩
  refine hK.out _ _ hS6 (fun _=>?_);clear hK K;refine tk 11 ?_;refine tk 12 ?_;(try simp only [Act.put,P1,pu,P3]);have hrow6:=(HBA5.out.below hb56).row;have HC2:=hid hc2;have hthere:w6.there gs 9 7:=there_row hrow6 (by show 9+7<=17;omega)
  have hrow7:(w6.setCells gs 9 (CR c2).toList).heap[gs]? = some (.cells (sr m (k:Int) (s:Int) (t:Int) c2 f) 98):=by have h:=Sp (CR c2).toList 9 _ _ hrow6;rw [put_col] at h;exact h
  have hk7:KT bS w6 (w6.setCells gs 9 (CR c2).toList):=Cu (by decide) _ _ _ _ hrow6;have hb7:Below Bs w6 (w6.setCells gs 9 (CR c2).toList):=sC HGS.out _ _ _
  have hS7:(w6.setCells gs 9 (CR c2).toList).heap[g11]? = some (.cells #[.int .i64 (k:Int),.int .i64 (s:Int),.int .i64 n,.int .i64 (k:Int),.int .i64 0,.slice none 0 0,.slice A l.length c] 55)/\(w6.setCells gs 9 (CR c2).toList).cell? ⟨gs,16,none⟩=some (.bool f):=⟨hk7.row _ _ _ _ hS6.1 (by decide),CX hrow7 16 (.bool f) rfl⟩
  refine one 13 (fun K hK=>?_);refine Wg (by rfl) ?_;refine wp_store_mid 55 _ _ rfl gs 9 (CR c2) rfl rfl hthere (by kernel_rfl) (by kernel_rfl) ?_;refine hK.out _ _ hS7 (fun _=>?_);clear hK K;(try simp only [Act.put]);refine wpAnyH_done (by kernel_rfl) ?_ _;have HR7:=hid hrow7
  have HF7:=hid (show FR Bs bS w (w6.setCells gs 9 (CR c2).toList) from (FR.below HB5.out HBW.out).trans ((FR.below hb56 (Nat.le_trans HBW.out HB5.out.size)).trans ⟨hb7,hk7⟩));clear hrow6 hthere hrow7 hk7 hb7 hS7 hS6 hb56 hb6 hc2 hS0 hd x16 HFI HBA5 HL5 HP5;generalize w6.setCells gs 9 (CR c2).toList=w7 at *;have y16:=CX HR7.out 16 (.bool f) rfl;have f16:=fz HR7.out 16
  go_wp2_with fail;go_end0;have hk8:KT bS w7 (w7.setCell ⟨gs,16,none⟩ (.bool true)):=KT.store HR7.out (by decide);have hfr:FR Bs bS w (w7.setCell ⟨gs,16,none⟩ (.bool true)):=HF7.out.trans ⟨(Below.refl _ _).setCell (p:=⟨gs,16,none⟩) HGS.out _,hk8⟩;have hrow8:(w7.setCell ⟨gs,16,none⟩ (.bool true)).heap[gs]? = some (.cells (sr m (k:Int) (s:Int) (t:Int) c2 true) 98):=by rw [Hp HR7.out];rfl
  refine ⟨rfl,c2,true,⟨hrow8,?_⟩,?_,hfr⟩
  ·rcases HC2.out with ⟨rfl,_⟩ | ⟨rfl,_,_⟩
   ·exact OR.keptT HL.out hfr.kt (by decide)
   ·exact OR.keptT HBS.out.vis hfr.kt (by decide)
  ·refine HSR.out.step HOK.out HMEM.out HYES.out ?_
   rcases HC2.out with ⟨rfl,h1⟩ | ⟨rfl,h1,h2⟩
   ·exact .inl ⟨rfl,h1⟩
   ·exact .inr ⟨rfl,h1,h2⟩
 ·have e1:(kk == 0)=false:=beq_eq_false_iff_ne.2 hkk
  have HNO:=hid (HK2.out hkk);clear hkk;go_wp2_with fail;go_end0;exact ⟨rfl,cm,f,HBA3.out,HSR.out.skip HNO.out,FR.below HB3.out HBW.out⟩
end Go.Proofs.YtjcekdiocliddaaGreatDoor

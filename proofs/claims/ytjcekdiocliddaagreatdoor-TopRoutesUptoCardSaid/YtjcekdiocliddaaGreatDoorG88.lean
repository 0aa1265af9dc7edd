/- Labels in memory; label.with, known, paired. (Printed by wip/tk/mkToE.py.) -/
import Derived.Test.YtjcekdiocliddaaGreatDoorG84
import Derived.Great.BuildSlice
import Derived.Test.YtjcekdiocliddaaGreatDoorG87
namespace Go.Proofs.YtjcekdiocliddaaGreatDoor
open Lib (hid)
open Go.RowKit Num Txt Pf Tk
set_option maxHeartbeats 32000000
set_option maxRecDepth 100000
set_option linter.unusedVariables false
attribute [local go_sem] BS Bg Bt Bm Be Ba
structure Lb where
 A:Option Addr
 ca:Nat
 B:Option Addr
 cb:Nat
 l:LB
def Lb.cells (m:Lb):List Value:=[.int .i64 m.l.kind,.slice m.A m.l.vis.length m.ca,.int .i64 m.l.place,.int .i64 m.l.time,.int .i64 m.l.driven,.int .i64 m.l.miles,.slice m.B m.l.load.length m.cb,.int .i64 (m.l.dn:Int),.int .i64 (m.l.op:Int)]
theorem Lb.cells_len (m:Lb):m.cells.length=9:=rfl
abbrev LZ:Array Value:=#[.int .i64 0,.slice none 0 0,.int .i64 0,.int .i64 0,.int .i64 0,.int .i64 0,.slice none 0 0,.int .i64 0,.int .i64 0]
structure Ah (w:World) (m:Lb):Prop where
 visO:VO w 0 m.A m.ca m.l.vis
 loadO:Ao w 0 m.B m.cb m.l.load
theorem Ah.vis {w:World} {m:Lb} (h:Ah w m):Cs w m.A (m.l.vis.flatMap VC):=OR.cells h.visO
theorem Ah.load {w:World} {m:Lb} (h:Ah w m):Cs w m.B (ints m.l.load):=OR.cells h.loadO
theorem Ah.vl {w:World} {m:Lb} (h:Ah w m):m.l.vis.length<=m.ca/\m.ca<=maxLen:=OR.cap h.visO
theorem Ah.ll {w:World} {m:Lb} (h:Ah w m):m.l.load.length<=m.cb/\m.cb<=maxLen:=OR.cap h.loadO
theorem Ah.below {w w':World} {m:Lb} (h:Ah w m) (hb:Below w.heap.size w w'):Ah w' m:=⟨OR.below h.visO hb,OR.below h.loadO hb⟩
theorem Ah.kt {w w':World} {m:Lb} {ts:List TypeId} (h:Ah w m) (hk:KT ts w w') (h1:92 ∉ ts) (h2:3 ∉ ts):Ah w' m:=⟨OR.keptT h.visO hk h1,OR.keptT h.loadO hk h2⟩
def restM (t:TV) (m:Lb):Lb:={ m with l:=Bn t m.l }
structure Ag (w:World) (Bs:Nat) (A:Option Addr) (c:Nat) (ms:List Lb):Prop where
 row:OR w Bs 65 9 A ms.length c (ms.flatMap Lb.cells)
 each:∀ m ∈ ms,Ah w m
theorem Ag.below {w w':World} {Bs:Nat} {A:Option Addr} {c:Nat} {ms:List Lb} (h:Ag w Bs A c ms) (hb:Below w.heap.size w w'):Ag w' Bs A c ms:=⟨OR.below h.row hb,fun m hm=>(h.each m hm).below hb⟩
theorem Ag.mono {w:World} {Bs Bs':Nat} {A:Option Addr} {c:Nat} {ms:List Lb} (h:Ag w Bs A c ms) (hb:Bs'<=Bs):Ag w Bs' A c ms:=⟨h.row.mono hb,h.each⟩
theorem Ag.nil (w:World) (Bs:Nat):Ag w Bs none 0 []:=⟨OR.nil _ _ _ _,fun m hm=>absurd hm (by simp)⟩
def LE (L:List LB) (w:World) (e:Ending) (w':World):Prop:=∃ (A:Option Addr) (c:Nat) (ms:List Lb),e=.returned (.slice A ms.length c)/\Ag w' w.heap.size A c ms/\ms.map (·.l)=L/\Below w.heap.size w w'
theorem LE.none {L:List LB} (h:L=[]) {w w':World} (hb:Below w.heap.size w w'):LE L w (.returned (.slice Option.none 0 0)) w':=⟨Option.none,0,[],rfl,Ag.nil _ _,by rw [h];rfl,hb⟩
theorem lb_info:(Tryz.prog.info? 65).map (fun i=>(i.zero,i.size,i.bytes))=some (some (.agg LZ),9,104):=by kernel_rfl
theorem el_lb:ER Tryz.prog 59 65 (.agg LZ) 9 104:=⟨Tryz.underlying59,info_parts lb_info,rfl,by decide⟩
theorem own_full {w:World} {Bs g n sz:Nat} {e:TypeId} {xs:List Value} (h:w.heap[g]? = some (.cells xs.toArray e)) (hg:Bs<=g) (hl:xs.length=n*sz) (hn:n<=maxLen):OR w Bs e sz (some ⟨g,0,none⟩) n n xs :=
 ⟨hl,.inr ⟨g,n,xs.toArray,rfl,hg,h,Nat.le_refl _,hn,by rw [List.size_toArray];exact hl,by rw [List.toList_toArray,<- hl];exact List.take_of_length_le (Nat.le_refl _)⟩⟩
theorem ay {α:Type} {p:α->Bool} {l:List α} {a:α} (ha:a ∈ l) (h:p a=true):l.any p=true:=List.any_eq_true.2 ⟨a,ha,h⟩
theorem am {α:Type} {p:α->Bool} {l:List α} (h:∀ a ∈ l,p a=false):l.any p=false:=by
 rw [List.any_eq_false];intro a ha;rw [h a ha];decide
theorem wR {P:Program} {ops:Array Oper} {rest:List Oper} {o:Oper} {a:Act} {w:World} {Q:Exit->Act->World->Prop} {t e:TypeId} {z:Value} {sz bytes:Nat} (he:ER P t e z sz bytes) (hg:o.guard=none) (len:Nat) (parts:Array (Nat × Operand)) (ho:o.op=.buildSlice t len parts) (cells:Array Value)
  (hsmall:¬ len*sz > 2 ^ 24) (hp0:¬ len*sz=0) (hf:Instr.fill (fun i=>some (i*sz,sz)) ((Array.range (len*sz)).map (z.cells[·% z.cells.size]!)) (parts.map fun (i,x)=>(i,a.eval x)).toList=some cells)
  (h:wpList P ops Q rest (a.put o.dst (.slice (some ⟨w.heap.size,0,none⟩) len len)) (w.alloc (.cells cells e))):wpList P ops Q (o :: rest) a w:=by
 obtain ⟨ht,⟨i,hi,hz,hsz,hb⟩,_,hpos⟩:=he;subst hsz;exact wpList_buildSlice hg t e len parts ho cells i z ht hi hz hsmall hp0 hf h
theorem ly (t:Ty) (m:Lb) (w:World) (hr:0<=t.t.rest/\t.t.rest<=4096) (htm:0<=m.l.time/\m.l.time<=1000000) (hat:Ah w m) :
  Calls Tryz.prog 92 #[.agg t.cells.toArray,.agg m.cells.toArray] w (LE (WL t.t m.l) w):=by
 obtain ⟨k1,k2,kb⟩:=aL w (.cells t.cells.toArray 81) (.cells m.cells.toArray 65);have HB:=hid kb;have HK1:=hid k1;have HK2:=hid k2;have HAT:=hid (fun w' (hb:Below w.heap.size w w')=>hat.below hb);clear k1 k2 kb hat;go_enter Tryz.func92,Tryz.ntmps92;(try simp only [Bm]);go_upto_region 1 with fail
 generalize (w.alloc (.cells t.cells.toArray 81)).alloc (.cells m.cells.toArray 65)=wa at *;obtain ⟨h1,hh1⟩:∃ h1,h1=w.heap.size:=⟨_,rfl⟩
 obtain ⟨h2,hh2⟩:∃ h2,h2=w.heap.size+1:=⟨_,rfl⟩
 rw [<- hh2] at HK2;rw [<- hh1] at HK1;rw [<- hh2,<- hh1];clear hh1 hh2;obtain ⟨n5,p5⟩:=Na wa (.cells LZ 65);obtain ⟨q5,b5⟩:=nS wa LZ m.cells.toArray 65;have HP5:=hid p5;have HQ5:=hid q5;have HB5:=hid (bL HB.out b5);have HK15:=hid (rK HK1.out b5);have HK25:=hid (rK HK2.out b5);clear n5 p5 q5 b5
 go_upto_region 2 with (first | (refine lr HK2.out Tryz.underlying65 ?_) | (refine sw m.cells.toArray HP5.out ?_))
 (try simp only [Act.put]);generalize (wa.alloc (.cells LZ 65)).setRow wa.heap.size m.cells.toArray=wb at *;obtain ⟨h5,hh5⟩:∃ h5,h5=wa.heap.size:=⟨_,rfl⟩
 rw [<- hh5] at HQ5;rw [<- hh5];have hge5:w.heap.size<=h5:=by rw [hh5];exact HB.out.size
 have hne25:h2≠h5:=by have:=lh HK2.out;omega
 clear hh5 HP5 HK1 HK2 HB;have x3:=CX HQ5.out 3 (.int .i64 m.l.time) rfl;have y10:=CX HK15.out 10 (.int .i64 t.t.rest) rfl;have f3:=fz HQ5.out 3;have HG5:=hid hge5;clear hge5;go_upto_region 3 with fail;(try simp only [Act.put])
 have HR1:=hid (show (wb.setCell ⟨h5,3,none⟩ (.int .i64 (m.l.time+t.t.rest))).heap[h5]? = some (.cells (Lb.cells { m with l:={ m.l with time:=m.l.time+t.t.rest } }).toArray 65) by rw [Hp HQ5.out];rfl);have HB6:=hid (HB5.out.setCell (p:=⟨h5,3,none⟩) (by have:=HG5.out;omega) (.int .i64 (m.l.time+t.t.rest)))
 have HK26:=hid ((Below.heap_setCell wb ⟨h5,3,none⟩ (.int .i64 (m.l.time+t.t.rest)) h2 hne25).trans HK25.out);clear x3 y10 f3 HQ5 HB5 HK15 HK25;generalize wb.setCell ⟨h5,3,none⟩ (.int .i64 (m.l.time+t.t.rest))=wc at *;have f4:=fz HR1.out 4;have x4:=CX HR1.out 4 (.int .i64 m.l.driven) rfl;go_upto_region 4 with fail;(try simp only [Act.put])
 have HR2:=hid (show (wc.setCell ⟨h5,4,none⟩ (.int .i64 0)).heap[h5]? = some (.cells (restM t.t m).cells.toArray 65) by rw [Hp HR1.out];rfl);have HB7:=hid (HB6.out.setCell (p:=⟨h5,4,none⟩) (by have:=HG5.out;omega) (.int .i64 0));have HK27:=hid ((Below.heap_setCell wc ⟨h5,4,none⟩ (.int .i64 0) h2 hne25).trans HK26.out);clear f4 x4 HR1 HB6 HK26
 generalize wc.setCell ⟨h5,4,none⟩ (.int .i64 0)=wd at *;go_wp2_with (first | (refine lr HK27.out Tryz.underlying65 ?_) | (refine lr HR2.out Tryz.underlying65 ?_) | (refine wR el_lb rfl 2 _ rfl (m.cells ++ (restM t.t m).cells).toArray (by decide) (by decide) (by kernel_rfl) ?_))
 obtain ⟨n9,p9⟩:=Na wd (.cells (m.cells ++ (restM t.t m).cells).toArray 65);have hb9:=HB7.out.trans (n9.mono HB7.out.size);have hat9:=HAT.out _ hb9;go_ret;refine ⟨some ⟨wd.heap.size,0,none⟩,2,[m,restM t.t m],rfl,⟨?_,fun k hk=>?_⟩,rfl,hb9⟩
 ·exact own_full p9 HB7.out.size rfl (show 2<=maxLen by decide)
 ·rcases List.mem_cons.1 hk with rfl | hk
  ·exact hat9
  ·rw [List.mem_singleton.1 hk]
   exact ⟨hat9.visO,hat9.loadO⟩
theorem lknown_any (m:IM) (s:Nat) (w:World) (hm:IA w m) (hml:m.ords.length<=3) (hs:s<2 ^ m.ords.length) (hs0:0<s) :
  Calls Tryz.prog 89 #[iA m,.int .i64 s] w fun e w'=>e=.returned (.bool (kB m.v s))/\Below w.heap.size w w':=by
 obtain ⟨n4,p4⟩:=Na w (.cells (iQ m) 30);have HN4:=hid n4;have HK:=hid p4;have HO:=hid hm.ords;have hol:=hm.ol;have hs8:s<8:=Nat.lt_of_lt_of_le hs (Nat.pow_le_pow_right (n:=2) (by decide) hml);have hs20:s<1048576:=by omega
 have HMEM:=hid (fun w'=>ma s w' hs20);have HLT:=hid (fun i (hi:i ∈ MS s)=>Mt hs hi);have HKN:=hid (show kB m.v s=(MS s).all (fun i=>!oO m.v i) from rfl);have hsI:((s:Nat):Int)<((2 ^ m.ords.length:Nat):Int):=by omega
 have HSH:=hid (show wrap64 (2 ^ m.ords.length)=((2 ^ m.ords.length:Nat):Int) by
  have h3:m.ords.length=0∨m.ords.length=1∨m.ords.length=2∨m.ords.length=3:=by omega
  rcases h3 with e | e | e | e <;> rw [e] <;> decide +kernel)
 have hsh:(s:Int)<wrap64 (2 ^ m.ords.length):=by rw [HSH.out];omega
 have hs00:¬ s=0:=by omega
 have hs0i:¬ (s:Int)<=0:=by omega
 unfold maxLen at hol;clear hm n4 p4 hs;go_enter Tryz.func89,Tryz.ntmps89;(try simp only [Bm]);go_upto_region 1 with fail;rw [iq];generalize w.alloc (.cells (iQ m) 30)=wa at *;obtain ⟨h1,hh1⟩:∃ h1,h1=w.heap.size:=⟨_,rfl⟩
 rw [<- hh1] at HK;rw [<- hh1];clear hh1;have q3:=CX HK.out 2 (.slice m.tA m.types.length m.tc) rfl;have q4:=CX HK.out 3 (.slice m.oA m.ords.length m.oc) rfl;go_upto_region 3 with fail;clear q3 q4 hsh hs00 hs0i HSH hsI;go_wp2_with fail;refine (HMEM.out wa).mono ?_;rintro e w1 ⟨VA,vc,rfl,hown,hb1⟩;have HOW:=hid (OR.cells hown);have HCP:=hid (OR.cap hown)
 have HB1:=hid (bL HN4.out hb1);have HK1:=hid (rK HK.out hb1);have hlen:=mK s 63;obtain ⟨l,hl⟩:∃ l,l=MS s:=⟨_,rfl⟩
 have hlen:l.length<=63:=by rw [hl];exact hlen
 rw [<- hl] at HOW HCP HLT HKN;rw [<- hl];have HL:=hid hl;clear hown hb1 HK HN4 hl HMEM;go_wp2_with fail;go_loopw [21] (fun j wr=>∃ k:Nat,k<=l.length/\j=.int .i64 k/\(∀ i (h:i<l.length),i<k->oO m.v l[i]=false)/\wr.heap[h1]? = some (.cells (iQ m) 30)/\Below w.heap.size w wr/\Below w1.heap.size w1 wr) (fun j _=>l.length - (intOf j).toNat)
 case atStart=>exact ⟨0,Nat.zero_le _,rfl,fun i _ h=>absurd h (Nat.not_lt_zero _),HK1.out,HB1.out,Below.refl _ _⟩
 case round =>
  clear HK1 HB1;obtain ⟨k,hk,rfl,hno,hr1,hbel,hbl1⟩:=hrel;have HB:=hid hbel;have HBL:=hid hbl1;have HNO:=hid hno;have HR1:=hid hr1;clear hbel hno hr1 hbl1;by_cases hlt:k<l.length
  ·have hlt1:(k:Int)<(l.length:Int):=by omega
   obtain ⟨g1,o1,hA1,hg1,hx1⟩:=HOW.out (by rw [il];omega);have x0:=(HBL.out.cell (p:=⟨g1,o1+k,none⟩) hg1).trans (hx1 k _ (iK l k hlt));have hu:=HLT.out _ (List.getElem_mem hlt);have HME:=hid (show l[k] ∈ MS s by rw [<- HL.out];exact List.getElem_mem hlt)
   have HNEXT:=hid (show oO m.v l[k]=false->∀ i (h:i<l.length),i<k+1->oO m.v l[i]=false from fun h i hi hik=>by
    by_cases e:i=k
    ·subst e;exact h
    ·exact HNO.out i hi (by omega))
   rw [hA1];clear hx1 hA1;obtain ⟨u,hu2⟩:∃ u,u=l[k]:=⟨_,rfl⟩
   rw [<- hu2] at x0 hu HME HNEXT;clear hu2;obtain ⟨o,ho⟩:∃ o:Nat,u=(o:Int):=⟨u.toNat,by omega⟩
   subst ho;have hol1:o<m.ords.length:=by omega
   have q3:=CX HR1.out 3 (.slice m.oA m.ords.length m.oc) rfl;obtain ⟨g2,o2,hA2,hg2,hx2⟩:=eP OM.cells_len (by decide) HO.out (by omega);have x2:=(HB.out.cell (p:=⟨g2,o2+o*16+15,none⟩) hg2).trans (hx2 o hol1 15 _ rfl);rw [hA2] at q3;have HOF:=hid (OO hol1);clear hx2 hA2;generalize m.ords[o].o.off=b at *
   cases b with
   |true =>
    have HNA:=hid (show kB m.v s=false by rw [HKN.out,List.all_eq_false];exact ⟨_,by rw [HL.out];exact HME.out,by rw [HOF.out];decide⟩);clear HNEXT;go_wp2_with fail;go_ret;exact ⟨rb HNA.out.symm,HB.out⟩
   |false =>
    have HN:=hid (HNEXT.out HOF.out);clear HNEXT;go_wp2_with fail;go_roundw
    case rel=>exact ⟨k+1,by omega,by go_num,HN.out,HR1.out,HB.out,HBL.out⟩
    case measure=>simp [intOf];omega
  ·have hlt1:¬ (k:Int)<(l.length:Int):=by omega
   have HALL:=hid (aM (l:=l) (P:=fun u=>oO m.v u=false) fun i hi=>HNO.out i hi (by omega));clear HNO;have HFIN:=hid (show kB m.v s=true by rw [HKN.out,List.all_eq_true];exact fun i hi=>by rw [HALL.out i hi];rfl);go_wp2_with fail;go_ret;exact ⟨rb HFIN.out.symm,HB.out⟩
theorem lpaired_any (m:IM) (s:Nat) (w:World) (hm:IA w m) (hs20:s<1048576) :
  Calls Tryz.prog 90 #[iA m,.int .i64 s] w fun e w'=>e=.returned (.bool (PB m.v s))/\Below w.heap.size w w':=by
 obtain ⟨n4,p4⟩:=Na w (.cells (iQ m) 30);have HN4:=hid n4;have HK:=hid p4;have HX:=hid hm.apart;have HBF:=hid hm.before;have hxl:=hm.xl;have hbl:=hm.bl;have HHAS:=hid (fun i w'=>mA s i w' hs20);have HPB:=hid (show PB m.v s=(!(m.apart.any (bo s)) && !(m.before.any (lB s))) from rfl);unfold maxLen at hxl hbl;clear hm n4 p4
 go_enter Tryz.func90,Tryz.ntmps90;(try simp only [Bm]);go_upto_region 1 with fail;rw [iq];generalize w.alloc (.cells (iQ m) 30)=wa at *;obtain ⟨h1,hh1⟩:∃ h1,h1=w.heap.size:=⟨_,rfl⟩
 rw [<- hh1] at HK;rw [<- hh1];clear hh1;have q4:=CX HK.out 4 (.slice m.xA m.apart.length m.xc) rfl;go_wp2_with fail;clear q4;have HW1:=hid (Below.refl wa.heap.size wa)
 go_loopw [12] (fun j wr=>∃ k:Nat,k<=m.apart.length/\j=.int .i64 k/\(∀ i (h:i<m.apart.length),i<k->bo s m.apart[i]=false)/\wr.heap[h1]? = some (.cells (iQ m) 30)/\Below w.heap.size w wr/\Below wa.heap.size wa wr) (fun j _=>m.apart.length - (intOf j).toNat)
 case atStart=>exact ⟨0,Nat.zero_le _,rfl,fun i _ h=>absurd h (Nat.not_lt_zero _),HK.out,HN4.out,HW1.out⟩
 case round =>
  clear HK HN4 HW1;obtain ⟨k,hk,rfl,hno,hr1,hbel,hbl1⟩:=hrel;have HB:=hid hbel;have HBL:=hid hbl1;have HNO:=hid hno;have HR1:=hid hr1;clear hbel hno hr1 hbl1;by_cases hlt:k<m.apart.length
  ·have hlt1:(k:Int)<(m.apart.length:Int):=by omega
   obtain ⟨g1,o1,hA1,hg1,hx1⟩:=eP pC (by decide) HX.out (by omega);have x0:=(HB.out.cell (p:=⟨g1,o1+k*2+0,none⟩) hg1).trans (hx1 k hlt 0 _ rfl);have x1:=(HB.out.cell (p:=⟨g1,o1+k*2+1,none⟩) hg1).trans (hx1 k hlt 1 _ rfl);rw [Nat.add_zero] at x0;have HME:=hid (List.getElem_mem hlt)
   have HNEXT:=hid (show bo s m.apart[k]=false->∀ i (h:i<m.apart.length),i<k+1->bo s m.apart[i]=false from fun h i hi hik=>by
    by_cases e:i=k
    ·subst e;exact h
    ·exact HNO.out i hi (by omega))
   rw [hA1];clear hx1 hA1;obtain ⟨u,hu2⟩:∃ u,u=m.apart[k]:=⟨_,rfl⟩
   rw [<- hu2] at x0 x1 HME HNEXT;clear hu2;obtain ⟨u0,u1⟩:=u;simp only at x0 x1 HNEXT;obtain ⟨n5,p5⟩:=Na wr (.cells #[.int .i64 u0,.int .i64 u1] 139);go_upto_region 4 with fail;generalize hw5:wr.alloc (.cells #[.int .i64 u0,.int .i64 u1] 139)=w5 at *;clear hw5;have HB5:=hid (bL HB.out n5);have HBL5:=hid (bL HBL.out n5);have HR15:=hid (rK HR1.out n5)
   obtain ⟨g5,hg5⟩:∃ g5,g5=wr.heap.size:=⟨_,rfl⟩
   rw [<- hg5] at p5;rw [<- hg5];have y0:=CX p5 0 (.int .i64 u0) rfl;have y1:=CX p5 1 (.int .i64 u1) rfl;clear n5 p5 hg5 x0 x1 HB HBL HR1;go_wp2_with fail;refine (HHAS.out u0 w5).mono ?_;rintro e w6 ⟨rfl,hw⟩;obtain rfl:=hw.symm
   cases hh0:Aa s u0 with
   |false =>
    have HN:=hid (HNEXT.out (by unfold bo;simp only;rw [hh0];rfl));clear hh0 HNEXT;go_wp2_with fail;go_roundw
    case rel=>exact ⟨k+1,by omega,by go_num,HN.out,HR15.out,HB5.out,HBL5.out⟩
    case measure=>simp [intOf];omega
   |true =>
    have HNN:=hid (fun (h:Aa s u1=false)=>HNEXT.out (by unfold bo;simp only;rw [h,hh0];rfl))
    have HBAD:=hid (show Aa s u1=true->PB m.v s=false from fun h=>by
     rw [HPB.out,show ∀ a b:Bool,(a && b)=(a && b) from fun _ _=>rfl,ay HME.out (by unfold bo;simp only;rw [h,hh0];rfl)];simp)
    clear hh0 HNEXT;go_wp2_with fail;refine (HHAS.out u1 w5).mono ?_;rintro e w6 ⟨rfl,hw⟩;obtain rfl:=hw.symm
    cases hh1:Aa s u1 with
    |false =>
     have HN:=hid (HNN.out hh1);clear hh1 HNN HBAD;go_wp2_with fail;go_roundw
     case rel=>exact ⟨k+1,by omega,by go_num,HN.out,HR15.out,HB5.out,HBL5.out⟩
     case measure=>simp [intOf];omega
    |true =>
     have HNA:=hid (HBAD.out hh1);clear hh1 HNN HBAD;go_wp2_with fail;go_ret;exact ⟨rb HNA.out.symm,HB5.out⟩
  ·have hlt1:¬ (k:Int)<(m.apart.length:Int):=by omega
   have HALLx:=hid (ap (l:=m.apart) (P:=fun p=>bo s p=false) fun i hi=>HNO.out i hi (by omega));clear HNO;have q5:=CX HR1.out 5 (.slice m.bA m.before.length m.bc) rfl;go_wp2_with fail;clear q5;have HB3:=HB;have HBL3:=HBL;have HR13:=HR1;clear HB HBL HR1
   go_loopw [30] (fun j wr=>∃ k:Nat,k<=m.before.length/\j=.int .i64 k/\(∀ i (h:i<m.before.length),i<k->lB s m.before[i]=false)/\wr.heap[h1]? = some (.cells (iQ m) 30)/\Below w.heap.size w wr/\Below wa.heap.size wa wr) (fun j _=>m.before.length - (intOf j).toNat)
   case atStart=>exact ⟨0,Nat.zero_le _,rfl,fun i _ h=>absurd h (Nat.not_lt_zero _),HR13.out,HB3.out,HBL3.out⟩
   case round =>
    clear HR13 HB3 HBL3;obtain ⟨k,hk,rfl,hno,hr1,hbel,hbl1⟩:=hrel;have HB:=hid hbel;have HBL:=hid hbl1;have HNO:=hid hno;have HR1:=hid hr1;clear hbel hno hr1 hbl1;by_cases hlt:k<m.before.length
    ·have hlt1:(k:Int)<(m.before.length:Int):=by omega
     obtain ⟨g1,o1,hA1,hg1,hx1⟩:=eP pC (by decide) HBF.out (by omega);have x0:=(HB.out.cell (p:=⟨g1,o1+k*2+0,none⟩) hg1).trans (hx1 k hlt 0 _ rfl);have x1:=(HB.out.cell (p:=⟨g1,o1+k*2+1,none⟩) hg1).trans (hx1 k hlt 1 _ rfl);rw [Nat.add_zero] at x0;have HME:=hid (List.getElem_mem hlt)
     have HNEXT:=hid (show lB s m.before[k]=false->∀ i (h:i<m.before.length),i<k+1->lB s m.before[i]=false from fun h i hi hik=>by
      by_cases e:i=k
      ·subst e;exact h
      ·exact HNO.out i hi (by omega))
     rw [hA1];clear hx1 hA1;obtain ⟨u,hu2⟩:∃ u,u=m.before[k]:=⟨_,rfl⟩
     rw [<- hu2] at x0 x1 HME HNEXT;clear hu2;obtain ⟨u0,u1⟩:=u;simp only at x0 x1 HNEXT;obtain ⟨n5,p5⟩:=Na wr (.cells #[.int .i64 u0,.int .i64 u1] 139);go_upto_region 10 with fail;generalize hw5:wr.alloc (.cells #[.int .i64 u0,.int .i64 u1] 139)=w5 at *;clear hw5;have HB5:=hid (bL HB.out n5);have HBL5:=hid (bL HBL.out n5);have HR15:=hid (rK HR1.out n5)
     obtain ⟨g5,hg5⟩:∃ g5,g5=wr.heap.size:=⟨_,rfl⟩
     rw [<- hg5] at p5;rw [<- hg5];have y0:=CX p5 0 (.int .i64 u0) rfl;have y1:=CX p5 1 (.int .i64 u1) rfl;clear n5 p5 hg5 x0 x1 HB HBL HR1;go_wp2_with fail;refine (HHAS.out u1 w5).mono ?_;rintro e w6 ⟨rfl,hw⟩;obtain rfl:=hw.symm
     cases hh0:Aa s u1 with
     |false =>
      have HN:=hid (HNEXT.out (by unfold lB;simp only;rw [hh0];rfl));clear hh0 HNEXT;go_wp2_with fail;go_roundw
      case rel=>exact ⟨k+1,by omega,by go_num,HN.out,HR15.out,HB5.out,HBL5.out⟩
      case measure=>simp [intOf];omega
     |true =>
      have HNN:=hid (fun (h:Aa s u0=true)=>HNEXT.out (by unfold lB;simp only;rw [h,hh0];rfl))
      have HBAD:=hid (show Aa s u0=false->PB m.v s=false from fun h=>by
       rw [HPB.out,Bool.and_comm,ay HME.out (by unfold lB;simp only;rw [h,hh0];rfl)];simp)
      clear hh0 HNEXT;go_wp2_with fail;refine (HHAS.out u0 w5).mono ?_;rintro e w6 ⟨rfl,hw⟩;obtain rfl:=hw.symm
      cases hh1:Aa s u0 with
      |true =>
       have HN:=hid (HNN.out hh1);clear hh1 HNN HBAD;go_wp2_with fail;go_roundw
       case rel=>exact ⟨k+1,by omega,by go_num,HN.out,HR15.out,HB5.out,HBL5.out⟩
       case measure=>simp [intOf];omega
      |false =>
       have HNA:=hid (HBAD.out hh1);clear hh1 HNN HBAD;go_wp2_with fail;go_ret;exact ⟨rb HNA.out.symm,HB5.out⟩
    ·have hlt1:¬ (k:Int)<(m.before.length:Int):=by omega
     have HALLb:=hid (ap (l:=m.before) (P:=fun p=>lB s p=false) fun i hi=>HNO.out i hi (by omega));clear HNO;have HFIN:=hid (show PB m.v s=true by rw [HPB.out,am HALLx.out,am HALLb.out];rfl);go_wp2_with fail;go_ret;exact ⟨rb HFIN.out.symm,HB.out⟩
theorem or_bit2:∀ s,s<8->∀ t,t<8->bits BinOp.or IntKind.i64 ((s:Nat):Int) ((t:Nat):Int)=((s ||| t:Nat):Int):=by decide +kernel
theorem lready_any (m:IM) (k:Nat) (lb:Lb) (v:Int × Bool) (w:World) (hm:IA w m) (hok:IK m.v) (hml:m.ords.length<=3) (hk:k<m.types.length) (hkd:lb.l.kind=(k:Int)) (hdn:lb.l.dn<8) (hop:lb.l.op<8) (hv:0<=v.1/\v.1<(m.ords.length:Int)) :
  Calls Tryz.prog 137 #[iA m,.agg lb.cells.toArray,.agg #[.int .i64 v.1,.bool v.2]] w fun e w'=>e=.returned (.bool (Rb m.v m.types[k].t lb.l.dn lb.l.op v))/\Below w.heap.size w w':=by
 obtain ⟨v1,v2⟩:=v;obtain ⟨o,rfl⟩:∃ o:Nat,v1=(o:Int):=⟨v1.toNat,by simp only at hv;omega⟩
 simp only at hv;simp only;have ho:o<m.ords.length:=by omega
 obtain ⟨k1,k2,k3,kb⟩:=Av w (.cells (iQ m) 30) (.cells lb.cells.toArray 65) (.cells #[.int .i64 (o:Int),.bool v2] 92);have HB:=hid kb;have HK1:=hid k1;have HK2:=hid k2;have HK3:=hid k3;have HO:=hid hm.ords;have HX:=hid hm.apart;have HBF:=hid hm.before;have hol:=hm.ol;have hxl:=hm.xl;have hbl:=hm.bl;have htl:=hm.tl;have hol1:(o:Int)<(m.ords.length:Int):=by omega
 have hk2:(k:Int)<(m.types.length:Int):=by omega
 have hnt:m.types.length<=2:=by have h:=hok.nt;unfold IM.v at h;rw [List.length_map] at h;exact h
 have HAB:=hid (fun (w':World)=>fA m.types[k] m.ords[o].o.skills w' (hok.typesX _ (Ti (List.getElem_mem hk))).skills.1 (hok.ordsX _ (ord_in (List.getElem_mem ho))).skills.1);have HH1:=hid (fun i w'=>mA lb.l.dn i w' (by omega));have HH2:=hid (fun i w'=>mA lb.l.op i w' (by omega))
 obtain ⟨gt,ot,hTA,hgt,htc⟩:=eP Ty.cells_len (by decide) (hm.types.below kb) (by omega);obtain ⟨go,oo,hOA,hgo,hoc⟩:=eP OM.cells_len (by decide) (hm.ords.below kb) (by omega);have HTC:=hid (fun j v h=>htc k hk j v h);have HOC:=hid (fun j v h=>hoc o ho j v h);have HGT:=hid hgt;have HKD:=hid hkd;have HTA:=hid hTA;have HOA:=hid hOA;unfold maxLen at hol hxl hbl htl
 clear hm hok hkd k1 k2 k3 kb htc hoc hgt hgo hTA hOA;go_enter Tryz.func137,Tryz.ntmps137;(try simp only [Bm]);go_upto_region 1 with fail;rw [iq];generalize ((w.alloc (.cells (iQ m) 30)).alloc (.cells lb.cells.toArray 65)).alloc (.cells #[.int .i64 (o:Int),.bool v2] 92)=wa at *;obtain ⟨h1,hh1⟩:∃ h1,h1=w.heap.size:=⟨_,rfl⟩
 obtain ⟨h2,hh2⟩:∃ h2,h2=w.heap.size+1:=⟨_,rfl⟩
 obtain ⟨h3,hh3⟩:∃ h3,h3=w.heap.size+1+1:=⟨_,rfl⟩
 rw [<- hh3] at HK3;rw [<- hh2] at HK2;rw [<- hh1] at HK1;rw [<- hh3,<- hh2,<- hh1];clear hh1 hh2 hh3;have y3:=CX HK1.out 3 (.slice m.oA m.ords.length m.oc) rfl;rw [HOA.out] at y3;have z0:=CX HK3.out 0 (.int .i64 (o:Int)) rfl;have HOFF:=hid (OO ho);have HSK:=hid (si ho);obtain ⟨om,hom⟩:∃ om,om=m.ords[o]:=⟨_,rfl⟩
 rw [<- hom] at HOFF HSK HAB HOC;obtain ⟨ty,hty⟩:∃ ty,ty=m.types[k]:=⟨_,rfl⟩
 rw [<- hty] at HAB HTC;have HTY:=hid hty;clear hom hty;obtain ⟨_,pwb⟩:=Na wa (.cells #[.string (B []),.slice none 0 0,.int .i64 0,.int .i64 0,.int .i64 0,.int .i64 0,.int .i64 0,.int .i64 0,.int .i64 0,.int .i64 0,.int .i64 0,.int .i64 0,.int .i64 0,.int .i64 0,.int .i64 0,.bool false] 136)
 obtain ⟨q5,b5⟩:=nS wa #[.string (B []),.slice none 0 0,.int .i64 0,.int .i64 0,.int .i64 0,.int .i64 0,.int .i64 0,.int .i64 0,.int .i64 0,.int .i64 0,.int .i64 0,.int .i64 0,.int .i64 0,.int .i64 0,.int .i64 0,.bool false] om.cells.toArray 136
 go_upto_region 2 with (first | (refine wL rfl 136 _ rfl go (oo+o*16) rfl om.cells _ HOC.out Tryz.underlying136 rfl (by kernel_rfl) ?_) | (refine sw om.cells.toArray pwb ?_))
 (try simp only [Act.put]);generalize (wa.alloc (.cells #[.string (B []),.slice none 0 0,.int .i64 0,.int .i64 0,.int .i64 0,.int .i64 0,.int .i64 0,.int .i64 0,.int .i64 0,.int .i64 0,.int .i64 0,.int .i64 0,.int .i64 0,.int .i64 0,.int .i64 0,.bool false] 136)).setRow wa.heap.size om.cells.toArray=wb at *;have HK1b:=hid (rK HK1.out b5);have HK2b:=hid (rK HK2.out b5)
 have HK3b:=hid (rK HK3.out b5);have HBb:=hid (bL HB.out b5);have HTCb:=hid (fun j v h=>(b5.cell (p:=⟨gt,ot+k*14+j,none⟩) HGT.out).trans (HTC.out j v h));have HGTb:=hid (Nat.lt_of_lt_of_le HGT.out b5.size);have HQ:=hid q5;obtain ⟨h7,hh7⟩:∃ h7,h7=wa.heap.size:=⟨_,rfl⟩
 rw [<- hh7] at HQ;rw [<- hh7];clear hh7 pwb q5 b5 y3 z0 HK1 HK2 HK3 HB HTC HGT HOC;have HHD:=hid (show Bb m.v ty.t lb.l.dn lb.l.op ((o:Int),v2)=(om.o.off || !AB ty.t om.o.skills || (v2 && !Aa lb.l.op (o:Int)) || (!v2 && Aa lb.l.dn (o:Int))) by unfold Bb;simp only;rw [HOFF.out,HSK.out])
 go_cut [56] (fun u wx=>u=.bool (Bb m.v ty.t lb.l.dn lb.l.op ((o:Int),v2))/\Below wb.heap.size wb wx)
 case first =>
  as_aux_lemma =>
  have hd:Below wb.heap.size wb wb.drew:=(Below.refl _ wb).drew;have hS0:(fun w'=>Below wb.heap.size wb w') wb.drew:=hd;have HH2o:=hid (HH2.out (o:Int));have HH1o:=hid (HH1.out (o:Int));clear HH1 HH2 HO HX HBF
  cases hoff:om.o.off with
  |true =>
   have HV:=hid (show Bb m.v ty.t lb.l.dn lb.l.op ((o:Int),v2)=true by rw [HHD.out,hoff];simp);have HOF:=hid hoff;clear hoff HHD;refine wp_region_held_drew (S:=fun w'=>Below wb.heap.size wb w') (by kernel_rfl) hS0 (fun _=>?_);refine tk 0 ?_;(try simp only [Act.put,P1,pu,P3]);refine Tv 1 (v:=?_) ?_ ?_;rotate_left
   ·(intro w hSw;have q0:=CX (rK HQ.out hSw) 15 (.bool om.o.off) rfl;rw [HOF.out] at q0;go_simp;(try with_reducible rfl))
   refine tk 2 ?_;refine un 3 ?_;refine un 4 ?_;(try simp only [Act.put,P1,pu,P3]);refine un 5 ?_;refine un 6 ?_;refine un 7 ?_;refine un 8 ?_;(try simp only [Act.put,P1,pu,P3]);refine un 9 ?_;refine un 10 ?_;refine un 11 ?_;refine un 12 ?_;(try simp only [Act.put,P1,pu,P3]);refine tk 13 ?_;refine tk 14 ?_;refine un 15 ?_;refine un 16 ?_;(try simp only [Act.put,P1,pu,P3])
   refine un 17 ?_;refine un 18 ?_;refine un 19 ?_;refine un 20 ?_;(try simp only [Act.put,P1,pu,P3]);refine un 21 ?_;refine un 22 ?_;refine un 23 ?_;refine un 24 ?_;(try simp only [Act.put,P1,pu,P3]);refine tk 25 ?_;refine tk 26 ?_;refine un 27 ?_;refine un 28 ?_;(try simp only [Act.put,P1,pu,P3]);refine un 29 ?_;refine un 30 ?_;refine un 31 ?_;refine un 32 ?_
   (try simp only [Act.put,P1,pu,P3]);refine un 33 ?_;refine un 34 ?_;refine un 35 ?_;refine un 36 ?_;(try simp only [Act.put,P1,pu,P3]);refine tk 37 ?_;(try simp only [Act.put,P1,pu,P3]);refine wpAnyH_done (by kernel_rfl) ?_ _;go_wp2_with fail;go_meet;exact ⟨by rw [HV.out],hd⟩
  |false =>
   cases hab:AB ty.t om.o.skills with
   |false =>
    have HV:=hid (show Bb m.v ty.t lb.l.dn lb.l.op ((o:Int),v2)=true by rw [HHD.out,hoff,hab];simp);have HOF:=hid hoff;clear hoff HHD;rw [hab] at HAB;clear hab;refine wp_region_held_drew (S:=fun w'=>Below wb.heap.size wb w') (by kernel_rfl) hS0 (fun _=>?_);refine tk 0 ?_;(try simp only [Act.put,P1,pu,P3]);refine Tv 1 (v:=?_) ?_ ?_;rotate_left
    ·(intro w hSw;have q0:=CX (rK HQ.out hSw) 15 (.bool om.o.off) rfl;rw [HOF.out] at q0;go_simp;(try with_reducible rfl))
    refine tk 2 ?_;refine tk 3 ?_;(try simp only [Act.put,P1,pu,P3]);refine Tv 4 (v:=?_) ?_ ?_;rotate_left
    ·(intro w hSw;have q0:=CX (rK HK1b.out hSw) 2 (.slice m.tA m.types.length m.tc) rfl;rw [HTA.out] at q0;go_simp;(try with_reducible rfl))
    refine tk 5 ?_;(try simp only [Act.put,P1,pu,P3]);refine Tv 6 (v:=?_) ?_ ?_;rotate_left
    ·(intro w hSw;have q0:=CX (rK HK2b.out hSw) 0 (.int .i64 lb.l.kind) rfl;rw [HKD.out] at q0;go_simp;(try with_reducible rfl))
    refine tk 7 ?_;(try simp only [Act.put,P1,pu,P3]);refine tkl 8 ty.cells Tryz.underlying81 (fun w hSw=>fun j v h=>(hSw.cell (p:=⟨gt,ot+k*14+j,none⟩) HGTb.out).trans (HTCb.out j v h)) ?_;refine tk 9 ?_;refine tq 10 (fun w hSw=>CX (rK HQ.out hSw) 10 (.int .i64 om.o.skills) rfl) ?_;(try simp only [Act.put,P1,pu,P3]);refine one 11 (fun K hK=>?_);go_simp
    refine (HAB.out wb.drew).mono ?_;rintro e wc ⟨rfl,hb6⟩;have HB6:=hid (bL hd hb6);refine hK.out _ _ (HB6.out) (fun _=>?_);clear hK K;refine tk 12 ?_;refine tk 13 ?_;refine tk 14 ?_;refine un 15 ?_;(try simp only [Act.put,P1,pu,P3]);refine un 16 ?_;refine un 17 ?_;refine un 18 ?_;refine un 19 ?_;(try simp only [Act.put,P1,pu,P3]);refine un 20 ?_;refine un 21 ?_;refine un 22 ?_
    refine un 23 ?_;(try simp only [Act.put,P1,pu,P3]);refine un 24 ?_;refine tk 25 ?_;refine tk 26 ?_;refine un 27 ?_;(try simp only [Act.put,P1,pu,P3]);refine un 28 ?_;refine un 29 ?_;refine un 30 ?_;refine un 31 ?_;(try simp only [Act.put,P1,pu,P3]);refine un 32 ?_;refine un 33 ?_;refine un 34 ?_;refine un 35 ?_;(try simp only [Act.put,P1,pu,P3]);refine un 36 ?_;refine tk 37 ?_
    (try simp only [Act.put,P1,pu,P3]);refine wpAnyH_done (by kernel_rfl) ?_ _;go_wp2_with fail;go_meet;exact ⟨by rw [HV.out],HB6.out⟩
   |true =>
    cases v2 with
    |true =>
     cases hh2:Aa lb.l.op (o:Int) with
     |false =>
      have HV:=hid (show Bb m.v ty.t lb.l.dn lb.l.op ((o:Int),true)=true by rw [HHD.out,hoff,hab,hh2];simp);have HOF:=hid hoff;clear hoff HHD;rw [hab] at HAB;clear hab;rw [hh2] at HH2o;clear hh2;refine wp_region_held_drew (S:=fun w'=>Below wb.heap.size wb w') (by kernel_rfl) hS0 (fun _=>?_);refine tk 0 ?_;(try simp only [Act.put,P1,pu,P3]);refine Tv 1 (v:=?_) ?_ ?_;rotate_left
      ·(intro w hSw;have q0:=CX (rK HQ.out hSw) 15 (.bool om.o.off) rfl;rw [HOF.out] at q0;go_simp;(try with_reducible rfl))
      refine tk 2 ?_;refine tk 3 ?_;(try simp only [Act.put,P1,pu,P3]);refine Tv 4 (v:=?_) ?_ ?_;rotate_left
      ·(intro w hSw;have q0:=CX (rK HK1b.out hSw) 2 (.slice m.tA m.types.length m.tc) rfl;rw [HTA.out] at q0;go_simp;(try with_reducible rfl))
      refine tk 5 ?_;(try simp only [Act.put,P1,pu,P3]);refine Tv 6 (v:=?_) ?_ ?_;rotate_left
      ·(intro w hSw;have q0:=CX (rK HK2b.out hSw) 0 (.int .i64 lb.l.kind) rfl;rw [HKD.out] at q0;go_simp;(try with_reducible rfl))
      refine tk 7 ?_;(try simp only [Act.put,P1,pu,P3]);refine tkl 8 ty.cells Tryz.underlying81 (fun w hSw=>fun j v h=>(hSw.cell (p:=⟨gt,ot+k*14+j,none⟩) HGTb.out).trans (HTCb.out j v h)) ?_;refine tk 9 ?_;refine tq 10 (fun w hSw=>CX (rK HQ.out hSw) 10 (.int .i64 om.o.skills) rfl) ?_;(try simp only [Act.put,P1,pu,P3]);refine one 11 (fun K hK=>?_);go_simp
      refine (HAB.out wb.drew).mono ?_;rintro e wc ⟨rfl,hb6⟩;have HB6:=hid (bL hd hb6);refine hK.out _ _ (HB6.out) (fun _=>?_);clear hK K;refine tk 12 ?_;refine tk 13 ?_;refine tk 14 ?_;refine tk 15 ?_;(try simp only [Act.put,P1,pu,P3]);refine tq 16 (fun w hSw=>CX (rK HK3b.out hSw) 1 (.bool true) rfl) ?_;refine tk 17 ?_;refine tk 18 ?_
      refine tq 19 (fun w hSw=>CX (rK HK2b.out hSw) 8 (.int .i64 (lb.l.op:Int)) rfl) ?_;(try simp only [Act.put,P1,pu,P3]);refine tk 20 ?_;refine tq 21 (fun w hSw=>CX (rK HK3b.out hSw) 0 (.int .i64 (o:Int)) rfl) ?_;(try simp only [Act.put,P1,pu,P3]);refine one 22 (fun K hK=>?_);go_simp;refine (HH2o.out _).mono ?_;rintro e wd ⟨rfl,hwd⟩;subst hwd
      refine hK.out _ _ (by assumption) (fun _=>?_);clear hK K;refine tk 23 ?_;refine tk 24 ?_;refine tk 25 ?_;refine tk 26 ?_;(try simp only [Act.put,P1,pu,P3]);refine un 27 ?_;refine un 28 ?_;refine un 29 ?_;refine un 30 ?_;(try simp only [Act.put,P1,pu,P3]);refine un 31 ?_;refine un 32 ?_;refine un 33 ?_;refine un 34 ?_;(try simp only [Act.put,P1,pu,P3]);refine un 35 ?_;refine un 36 ?_
      refine tk 37 ?_;(try simp only [Act.put,P1,pu,P3]);refine wpAnyH_done (by kernel_rfl) ?_ _;go_wp2_with fail;go_meet;exact ⟨by rw [HV.out],HB6.out⟩
     |true =>
      have HV:=hid (show Bb m.v ty.t lb.l.dn lb.l.op ((o:Int),true)=false by rw [HHD.out,hoff,hab,hh2];simp);have HOF:=hid hoff;clear hoff HHD;rw [hab] at HAB;clear hab;rw [hh2] at HH2o;clear hh2;refine wp_region_held_drew (S:=fun w'=>Below wb.heap.size wb w') (by kernel_rfl) hS0 (fun _=>?_);refine tk 0 ?_;(try simp only [Act.put,P1,pu,P3]);refine Tv 1 (v:=?_) ?_ ?_;rotate_left
      ·(intro w hSw;have q0:=CX (rK HQ.out hSw) 15 (.bool om.o.off) rfl;rw [HOF.out] at q0;go_simp;(try with_reducible rfl))
      refine tk 2 ?_;refine tk 3 ?_;(try simp only [Act.put,P1,pu,P3]);refine Tv 4 (v:=?_) ?_ ?_;rotate_left
      ·(intro w hSw;have q0:=CX (rK HK1b.out hSw) 2 (.slice m.tA m.types.length m.tc) rfl;rw [HTA.out] at q0;go_simp;(try with_reducible rfl))
      refine tk 5 ?_;(try simp only [Act.put,P1,pu,P3]);refine Tv 6 (v:=?_) ?_ ?_;rotate_left
      ·(intro w hSw;have q0:=CX (rK HK2b.out hSw) 0 (.int .i64 lb.l.kind) rfl;rw [HKD.out] at q0;go_simp;(try with_reducible rfl))
      refine tk 7 ?_;(try simp only [Act.put,P1,pu,P3]);refine tkl 8 ty.cells Tryz.underlying81 (fun w hSw=>fun j v h=>(hSw.cell (p:=⟨gt,ot+k*14+j,none⟩) HGTb.out).trans (HTCb.out j v h)) ?_;refine tk 9 ?_;refine tq 10 (fun w hSw=>CX (rK HQ.out hSw) 10 (.int .i64 om.o.skills) rfl) ?_;(try simp only [Act.put,P1,pu,P3]);refine one 11 (fun K hK=>?_);go_simp
      refine (HAB.out wb.drew).mono ?_;rintro e wc ⟨rfl,hb6⟩;have HB6:=hid (bL hd hb6);refine hK.out _ _ (HB6.out) (fun _=>?_);clear hK K;refine tk 12 ?_;refine tk 13 ?_;refine tk 14 ?_;refine tk 15 ?_;(try simp only [Act.put,P1,pu,P3]);refine tq 16 (fun w hSw=>CX (rK HK3b.out hSw) 1 (.bool true) rfl) ?_;refine tk 17 ?_;refine tk 18 ?_
      refine tq 19 (fun w hSw=>CX (rK HK2b.out hSw) 8 (.int .i64 (lb.l.op:Int)) rfl) ?_;(try simp only [Act.put,P1,pu,P3]);refine tk 20 ?_;refine tq 21 (fun w hSw=>CX (rK HK3b.out hSw) 0 (.int .i64 (o:Int)) rfl) ?_;(try simp only [Act.put,P1,pu,P3]);refine one 22 (fun K hK=>?_);go_simp;refine (HH2o.out _).mono ?_;rintro e wd ⟨rfl,hwd⟩;subst hwd
      refine hK.out _ _ (by assumption) (fun _=>?_);clear hK K;refine tk 23 ?_;refine tk 24 ?_;refine tk 25 ?_;refine tk 26 ?_;(try simp only [Act.put,P1,pu,P3]);refine tk 27 ?_;refine tq 28 (fun w hSw=>CX (rK HK3b.out hSw) 1 (.bool true) rfl) ?_;refine tk 29 ?_;refine tk 30 ?_;(try simp only [Act.put,P1,pu,P3]);refine un 31 ?_;refine un 32 ?_;refine un 33 ?_;refine un 34 ?_
      (try simp only [Act.put,P1,pu,P3]);refine un 35 ?_;refine tk 36 ?_;refine tk 37 ?_;(try simp only [Act.put,P1,pu,P3]);refine wpAnyH_done (by kernel_rfl) ?_ _;go_wp2_with fail;go_meet;exact ⟨by rw [HV.out],HB6.out⟩
    |false =>
     cases hh1:Aa lb.l.dn (o:Int) with
     |true =>
      have HV:=hid (show Bb m.v ty.t lb.l.dn lb.l.op ((o:Int),false)=true by rw [HHD.out,hoff,hab,hh1];simp);have HOF:=hid hoff;clear hoff HHD;rw [hab] at HAB;clear hab;rw [hh1] at HH1o;clear hh1;refine wp_region_held_drew (S:=fun w'=>Below wb.heap.size wb w') (by kernel_rfl) hS0 (fun _=>?_);refine tk 0 ?_;(try simp only [Act.put,P1,pu,P3]);refine Tv 1 (v:=?_) ?_ ?_;rotate_left
      ·(intro w hSw;have q0:=CX (rK HQ.out hSw) 15 (.bool om.o.off) rfl;rw [HOF.out] at q0;go_simp;(try with_reducible rfl))
      refine tk 2 ?_;refine tk 3 ?_;(try simp only [Act.put,P1,pu,P3]);refine Tv 4 (v:=?_) ?_ ?_;rotate_left
      ·(intro w hSw;have q0:=CX (rK HK1b.out hSw) 2 (.slice m.tA m.types.length m.tc) rfl;rw [HTA.out] at q0;go_simp;(try with_reducible rfl))
      refine tk 5 ?_;(try simp only [Act.put,P1,pu,P3]);refine Tv 6 (v:=?_) ?_ ?_;rotate_left
      ·(intro w hSw;have q0:=CX (rK HK2b.out hSw) 0 (.int .i64 lb.l.kind) rfl;rw [HKD.out] at q0;go_simp;(try with_reducible rfl))
      refine tk 7 ?_;(try simp only [Act.put,P1,pu,P3]);refine tkl 8 ty.cells Tryz.underlying81 (fun w hSw=>fun j v h=>(hSw.cell (p:=⟨gt,ot+k*14+j,none⟩) HGTb.out).trans (HTCb.out j v h)) ?_;refine tk 9 ?_;refine tq 10 (fun w hSw=>CX (rK HQ.out hSw) 10 (.int .i64 om.o.skills) rfl) ?_;(try simp only [Act.put,P1,pu,P3]);refine one 11 (fun K hK=>?_);go_simp
      refine (HAB.out wb.drew).mono ?_;rintro e wc ⟨rfl,hb6⟩;have HB6:=hid (bL hd hb6);refine hK.out _ _ (HB6.out) (fun _=>?_);clear hK K;refine tk 12 ?_;refine tk 13 ?_;refine tk 14 ?_;refine tk 15 ?_;(try simp only [Act.put,P1,pu,P3]);refine tq 16 (fun w hSw=>CX (rK HK3b.out hSw) 1 (.bool false) rfl) ?_;refine tk 17 ?_;refine un 18 ?_;refine un 19 ?_
      (try simp only [Act.put,P1,pu,P3]);refine un 20 ?_;refine un 21 ?_;refine un 22 ?_;refine un 23 ?_;(try simp only [Act.put,P1,pu,P3]);refine tk 24 ?_;refine tk 25 ?_;refine tk 26 ?_;refine tk 27 ?_;(try simp only [Act.put,P1,pu,P3]);refine tq 28 (fun w hSw=>CX (rK HK3b.out hSw) 1 (.bool false) rfl) ?_;refine tk 29 ?_;refine tk 30 ?_;refine tk 31 ?_
      (try simp only [Act.put,P1,pu,P3]);refine tq 32 (fun w hSw=>CX (rK HK2b.out hSw) 7 (.int .i64 (lb.l.dn:Int)) rfl) ?_;refine tk 33 ?_;refine tq 34 (fun w hSw=>CX (rK HK3b.out hSw) 0 (.int .i64 (o:Int)) rfl) ?_;(try simp only [Act.put,P1,pu,P3]);refine one 35 (fun K hK=>?_);go_simp;refine (HH1o.out _).mono ?_;rintro e wd ⟨rfl,hwd⟩;subst hwd
      refine hK.out _ _ (by assumption) (fun _=>?_);clear hK K;refine tk 36 ?_;refine tk 37 ?_;(try simp only [Act.put,P1,pu,P3]);refine wpAnyH_done (by kernel_rfl) ?_ _;go_wp2_with fail;go_meet;exact ⟨by rw [HV.out],HB6.out⟩
     |false =>
      have HV:=hid (show Bb m.v ty.t lb.l.dn lb.l.op ((o:Int),false)=false by rw [HHD.out,hoff,hab,hh1];simp);have HOF:=hid hoff;clear hoff HHD;rw [hab] at HAB;clear hab;rw [hh1] at HH1o;clear hh1;refine wp_region_held_drew (S:=fun w'=>Below wb.heap.size wb w') (by kernel_rfl) hS0 (fun _=>?_);refine tk 0 ?_;(try simp only [Act.put,P1,pu,P3]);refine Tv 1 (v:=?_) ?_ ?_;rotate_left
      ·(intro w hSw;have q0:=CX (rK HQ.out hSw) 15 (.bool om.o.off) rfl;rw [HOF.out] at q0;go_simp;(try with_reducible rfl))
      refine tk 2 ?_;refine tk 3 ?_;(try simp only [Act.put,P1,pu,P3]);refine Tv 4 (v:=?_) ?_ ?_;rotate_left
      ·(intro w hSw;have q0:=CX (rK HK1b.out hSw) 2 (.slice m.tA m.types.length m.tc) rfl;rw [HTA.out] at q0;go_simp;(try with_reducible rfl))
      refine tk 5 ?_;(try simp only [Act.put,P1,pu,P3]);refine Tv 6 (v:=?_) ?_ ?_;rotate_left
      ·(intro w hSw;have q0:=CX (rK HK2b.out hSw) 0 (.int .i64 lb.l.kind) rfl;rw [HKD.out] at q0;go_simp;(try with_reducible rfl))
      refine tk 7 ?_;(try simp only [Act.put,P1,pu,P3]);refine tkl 8 ty.cells Tryz.underlying81 (fun w hSw=>fun j v h=>(hSw.cell (p:=⟨gt,ot+k*14+j,none⟩) HGTb.out).trans (HTCb.out j v h)) ?_;refine tk 9 ?_;refine tq 10 (fun w hSw=>CX (rK HQ.out hSw) 10 (.int .i64 om.o.skills) rfl) ?_;(try simp only [Act.put,P1,pu,P3]);refine one 11 (fun K hK=>?_);go_simp
      refine (HAB.out wb.drew).mono ?_;rintro e wc ⟨rfl,hb6⟩;have HB6:=hid (bL hd hb6);refine hK.out _ _ (HB6.out) (fun _=>?_);clear hK K;refine tk 12 ?_;refine tk 13 ?_;refine tk 14 ?_;refine tk 15 ?_;(try simp only [Act.put,P1,pu,P3]);refine tq 16 (fun w hSw=>CX (rK HK3b.out hSw) 1 (.bool false) rfl) ?_;refine tk 17 ?_;refine un 18 ?_;refine un 19 ?_
      (try simp only [Act.put,P1,pu,P3]);refine un 20 ?_;refine un 21 ?_;refine un 22 ?_;refine un 23 ?_;(try simp only [Act.put,P1,pu,P3]);refine tk 24 ?_;refine tk 25 ?_;refine tk 26 ?_;refine tk 27 ?_;(try simp only [Act.put,P1,pu,P3]);refine tq 28 (fun w hSw=>CX (rK HK3b.out hSw) 1 (.bool false) rfl) ?_;refine tk 29 ?_;refine tk 30 ?_;refine tk 31 ?_
      (try simp only [Act.put,P1,pu,P3]);refine tq 32 (fun w hSw=>CX (rK HK2b.out hSw) 7 (.int .i64 (lb.l.dn:Int)) rfl) ?_;refine tk 33 ?_;refine tq 34 (fun w hSw=>CX (rK HK3b.out hSw) 0 (.int .i64 (o:Int)) rfl) ?_;(try simp only [Act.put,P1,pu,P3]);refine one 35 (fun K hK=>?_);go_simp;refine (HH1o.out _).mono ?_;rintro e wd ⟨rfl,hwd⟩;subst hwd
      refine hK.out _ _ (by assumption) (fun _=>?_);clear hK K;refine tk 36 ?_;refine tk 37 ?_;(try simp only [Act.put,P1,pu,P3]);refine wpAnyH_done (by kernel_rfl) ?_ _;go_wp2_with fail;go_meet;exact ⟨by rw [HV.out],HB6.out⟩
 case rest =>
  rename World=>w1;obtain ⟨rfl,hb1⟩:=hcut;have HB1:=hid (bL HBb.out hb1);have HK1c:=hid (rK HK1b.out hb1);have HK2c:=hid (rK HK2b.out hb1);have HK3c:=hid (rK HK3b.out hb1)
  have HRB:=hid (show Rb m.v m.types[k].t lb.l.dn lb.l.op ((o:Int),v2)=(!Bb m.v ty.t lb.l.dn lb.l.op ((o:Int),v2) && !(m.apart.any (AL (lb.l.dn ||| lb.l.op) (o:Int))) && (Aa lb.l.dn (o:Int) || !(m.before.any (be lb.l.dn lb.l.op (o:Int))))) by rw [<- HTY.out];rfl);clear hb1 HK1b HK2b HK3b HBb HQ HHD HAB HTCb HGTb HTA HOA HOFF HSK
  cases hh:Bb m.v ty.t lb.l.dn lb.l.op ((o:Int),v2) with
  |true =>
   have HV:=hid (HRB.out.trans (by rw [hh]));clear hh;go_wp2_with fail;go_ret;exact ⟨rb HV.out.symm,HB1.out⟩
  |false =>
   have HV:=hid (show Rb m.v m.types[k].t lb.l.dn lb.l.op ((o:Int),v2)=(!(m.apart.any (AL (lb.l.dn ||| lb.l.op) (o:Int))) && (Aa lb.l.dn (o:Int) || !(m.before.any (be lb.l.dn lb.l.op (o:Int))))) by rw [HRB.out,hh,Bool.not_false,Bool.true_and]);have r7:=CX HK2c.out 7 (.int .i64 (lb.l.dn:Int)) rfl;have r8:=CX HK2c.out 8 (.int .i64 (lb.l.op:Int)) rfl
   have q4:=CX HK1c.out 4 (.slice m.xA m.apart.length m.xc) rfl;have HOR:=hid (or_bit2 lb.l.dn hdn lb.l.op hop);have hor8:lb.l.dn ||| lb.l.op<8:=Nat.or_lt_two_pow (n:=3) hdn hop
   have HHH:=hid (fun i w'=>mA (lb.l.dn ||| lb.l.op) i w' (by omega));clear hh HRB;go_wp2_with fail;rw [HOR.out];clear r7 r8 q4;have HW1:=hid (Below.refl w1.heap.size w1);clear HTY HKD
   go_loopw [65] (fun j wr=>∃ k2:Nat,k2<=m.apart.length/\j=.int .i64 k2/\(∀ i (h:i<m.apart.length),i<k2->AL (lb.l.dn ||| lb.l.op) (o:Int) m.apart[i]=false)/\wr.heap[h1]? = some (.cells (iQ m) 30)/\Below w.heap.size w wr/\Below w1.heap.size w1 wr) (fun j _=>m.apart.length - (intOf j).toNat)
   case atStart=>exact ⟨0,Nat.zero_le _,rfl,fun i _ h=>absurd h (Nat.not_lt_zero _),HK1c.out,HB1.out,HW1.out⟩
   case round =>
    clear HK1c HB1 HW1;obtain ⟨k2,hk,rfl,hno,hr1,hbel,hbl1⟩:=hrel;have HB:=hid hbel;have HBL:=hid hbl1;have HNO:=hid hno;have HR1:=hid hr1;clear hbel hno hr1 hbl1;by_cases hlt:k2<m.apart.length
    ·have hlt1:(k2:Int)<(m.apart.length:Int):=by omega
     obtain ⟨g1,o1,hA1,hg1,hx1⟩:=eP pC (by decide) HX.out (by omega);have x0:=(HB.out.cell (p:=⟨g1,o1+k2*2+0,none⟩) hg1).trans (hx1 k2 hlt 0 _ rfl);have x1:=(HB.out.cell (p:=⟨g1,o1+k2*2+1,none⟩) hg1).trans (hx1 k2 hlt 1 _ rfl);rw [Nat.add_zero] at x0;have HME:=hid (List.getElem_mem hlt)
     have HNEXT:=hid (show AL (lb.l.dn ||| lb.l.op) (o:Int) m.apart[k2]=false->∀ i (h:i<m.apart.length),i<k2+1->AL (lb.l.dn ||| lb.l.op) (o:Int) m.apart[i]=false from fun h i hi hik=>by
      by_cases e:i=k2
      ·subst e;exact h
      ·exact HNO.out i hi (by omega))
     rw [hA1];clear hx1 hA1;obtain ⟨u,hu2⟩:∃ u,u=m.apart[k2]:=⟨_,rfl⟩
     rw [<- hu2] at x0 x1 HME HNEXT;clear hu2;obtain ⟨u0,u1⟩:=u;simp only at x0 x1 HNEXT;obtain ⟨n5,p5⟩:=Na wr (.cells #[.int .i64 u0,.int .i64 u1] 139);go_upto_region 8 with fail;generalize hw5:wr.alloc (.cells #[.int .i64 u0,.int .i64 u1] 139)=w5 at *;clear hw5;have HB5:=hid (bL HB.out n5);have HBL5:=hid (bL HBL.out n5);have HR15:=hid (rK HR1.out n5)
     obtain ⟨g5,hg5⟩:∃ g5,g5=wr.heap.size:=⟨_,rfl⟩
     rw [<- hg5] at p5;rw [<- hg5];have y0:=CX p5 0 (.int .i64 u0) rfl;have y1:=CX p5 1 (.int .i64 u1) rfl;clear n5 p5 hg5 x0 x1 HB HBL HR1;have z0:=CX (rK HK3c.out HBL5.out) 0 (.int .i64 (o:Int)) rfl;have r7:=CX (rK HK2c.out HBL5.out) 7 (.int .i64 (lb.l.dn:Int)) rfl;have r8:=CX (rK HK2c.out HBL5.out) 8 (.int .i64 (lb.l.op:Int)) rfl
     have HBAD:=hid (show AL (lb.l.dn ||| lb.l.op) (o:Int) (u0,u1)=true->Rb m.v m.types[k].t lb.l.dn lb.l.op ((o:Int),v2)=false from fun h=>by rw [HV.out,ay HME.out h];rfl)
     cases e0:(u0 == (o:Int)) with
     |true =>
      go_wp2_with fail;refine (HHH.out u1 w5).mono ?_;rintro e w6 ⟨rfl,hw⟩;obtain rfl:=hw.symm
      cases g1:Aa (lb.l.dn ||| lb.l.op) u1 with
      |true =>
       have HN:=hid (HBAD.out (by unfold AL;simp [e0,g1]));clear HNEXT HBAD;go_wp2_with fail;go_ret;exact ⟨rb HN.out.symm,HB5.out⟩
      |false =>
       cases e1:(u1 == (o:Int)) with
       |true =>
        go_wp2_with fail;refine (HHH.out u0 w5).mono ?_;rintro e w6 ⟨rfl,hw⟩;obtain rfl:=hw.symm
        cases g0:Aa (lb.l.dn ||| lb.l.op) u0 with
        |true =>
         have HN:=hid (HBAD.out (by unfold AL;simp [e0,g1,e1,g0]));clear HNEXT HBAD;go_wp2_with fail;go_ret;exact ⟨rb HN.out.symm,HB5.out⟩
        |false =>
         have HN:=hid (HNEXT.out (by unfold AL;simp [e0,g1,e1,g0]));clear HNEXT HBAD;go_wp2_with fail;go_roundw
         case rel=>exact ⟨k2+1,by omega,by go_num,HN.out,HR15.out,HB5.out,HBL5.out⟩
         case measure=>simp [intOf];omega
       |false =>
        have HN:=hid (HNEXT.out (by unfold AL;simp [e0,g1,e1]));clear HNEXT HBAD;go_wp2_with fail;go_roundw
        case rel=>exact ⟨k2+1,by omega,by go_num,HN.out,HR15.out,HB5.out,HBL5.out⟩
        case measure=>simp [intOf];omega
     |false =>
      cases e1:(u1 == (o:Int)) with
      |true =>
       go_wp2_with fail;refine (HHH.out u0 w5).mono ?_;rintro e w6 ⟨rfl,hw⟩;obtain rfl:=hw.symm
       cases g0:Aa (lb.l.dn ||| lb.l.op) u0 with
       |true =>
        have HN:=hid (HBAD.out (by unfold AL;simp [e0,e1,g0]));clear HNEXT HBAD;go_wp2_with fail;go_ret;exact ⟨rb HN.out.symm,HB5.out⟩
       |false =>
        have HN:=hid (HNEXT.out (by unfold AL;simp [e0,e1,g0]));clear HNEXT HBAD;go_wp2_with fail;go_roundw
        case rel=>exact ⟨k2+1,by omega,by go_num,HN.out,HR15.out,HB5.out,HBL5.out⟩
        case measure=>simp [intOf];omega
      |false =>
       have HN:=hid (HNEXT.out (by unfold AL;simp [e0,e1]));clear HNEXT HBAD;go_wp2_with fail;go_roundw
       case rel=>exact ⟨k2+1,by omega,by go_num,HN.out,HR15.out,HB5.out,HBL5.out⟩
       case measure=>simp [intOf];omega
    ·have hlt1:¬ (k2:Int)<(m.apart.length:Int):=by omega
     have HALLx:=hid (ap (l:=m.apart) (P:=fun p=>AL (lb.l.dn ||| lb.l.op) (o:Int) p=false) fun i hi=>HNO.out i hi (by omega));clear HNO;have HV2:=hid (show Rb m.v m.types[k].t lb.l.dn lb.l.op ((o:Int),v2)=(Aa lb.l.dn (o:Int) || !(m.before.any (be lb.l.dn lb.l.op (o:Int)))) by rw [HV.out,am HALLx.out];rfl)
     have z0:=CX (rK HK3c.out HBL.out) 0 (.int .i64 (o:Int)) rfl;have r7:=CX (rK HK2c.out HBL.out) 7 (.int .i64 (lb.l.dn:Int)) rfl;go_wp2_with fail;refine (HH1.out (o:Int) wr).mono ?_;rintro e w6 ⟨rfl,hw⟩;obtain rfl:=hw.symm;clear r7 z0
     cases hd1:Aa lb.l.dn (o:Int) with
     |true =>
      have HFIN:=hid (HV2.out.trans (by rw [hd1,Bool.true_or]));clear hd1;go_wp2_with fail;go_ret;exact ⟨rb HFIN.out.symm,HB.out⟩
     |false =>
      have HV3:=hid (HV2.out.trans (by rw [hd1,Bool.false_or]));have q5:=CX HR1.out 5 (.slice m.bA m.before.length m.bc) rfl;clear hd1 HV2;go_wp2_with fail;clear q5;have HB3:=HB;have HBL3:=HBL;have HR13:=HR1;clear HB HBL HR1
      go_loopw [102] (fun j wr=>∃ k2:Nat,k2<=m.before.length/\j=.int .i64 k2/\(∀ i (h:i<m.before.length),i<k2->be lb.l.dn lb.l.op (o:Int) m.before[i]=false)/\wr.heap[h1]? = some (.cells (iQ m) 30)/\Below w.heap.size w wr/\Below w1.heap.size w1 wr) (fun j _=>m.before.length - (intOf j).toNat)
      case atStart=>exact ⟨0,Nat.zero_le _,rfl,fun i _ h=>absurd h (Nat.not_lt_zero _),HR13.out,HB3.out,HBL3.out⟩
      case round =>
       clear HR13 HB3 HBL3;obtain ⟨k2,hk,rfl,hno,hr1,hbel,hbl1⟩:=hrel;have HB:=hid hbel;have HBL:=hid hbl1;have HNO:=hid hno;have HR1:=hid hr1;clear hbel hno hr1 hbl1;by_cases hlt:k2<m.before.length
       ·have hlt1:(k2:Int)<(m.before.length:Int):=by omega
        obtain ⟨g1,o1,hA1,hg1,hx1⟩:=eP pC (by decide) HBF.out (by omega);have x0:=(HB.out.cell (p:=⟨g1,o1+k2*2+0,none⟩) hg1).trans (hx1 k2 hlt 0 _ rfl);have x1:=(HB.out.cell (p:=⟨g1,o1+k2*2+1,none⟩) hg1).trans (hx1 k2 hlt 1 _ rfl);rw [Nat.add_zero] at x0;have HME:=hid (List.getElem_mem hlt)
        have HNEXT:=hid (show be lb.l.dn lb.l.op (o:Int) m.before[k2]=false->∀ i (h:i<m.before.length),i<k2+1->be lb.l.dn lb.l.op (o:Int) m.before[i]=false from fun h i hi hik=>by
         by_cases e:i=k2
         ·subst e;exact h
         ·exact HNO.out i hi (by omega))
        rw [hA1];clear hx1 hA1;obtain ⟨u,hu2⟩:∃ u,u=m.before[k2]:=⟨_,rfl⟩
        rw [<- hu2] at x0 x1 HME HNEXT;clear hu2;obtain ⟨u0,u1⟩:=u;simp only at x0 x1 HNEXT;obtain ⟨n5,p5⟩:=Na wr (.cells #[.int .i64 u0,.int .i64 u1] 139);go_upto_region 16 with fail;generalize hw5:wr.alloc (.cells #[.int .i64 u0,.int .i64 u1] 139)=w5 at *;clear hw5;have HB5:=hid (bL HB.out n5);have HBL5:=hid (bL HBL.out n5);have HR15:=hid (rK HR1.out n5)
        obtain ⟨g5,hg5⟩:∃ g5,g5=wr.heap.size:=⟨_,rfl⟩
        rw [<- hg5] at p5;rw [<- hg5];have y0:=CX p5 0 (.int .i64 u0) rfl;have y1:=CX p5 1 (.int .i64 u1) rfl;clear n5 p5 hg5 x0 x1 HB HBL HR1;have z0:=CX (rK HK3c.out HBL5.out) 0 (.int .i64 (o:Int)) rfl;have r7:=CX (rK HK2c.out HBL5.out) 7 (.int .i64 (lb.l.dn:Int)) rfl;have r8:=CX (rK HK2c.out HBL5.out) 8 (.int .i64 (lb.l.op:Int)) rfl
        have HBAD:=hid (show be lb.l.dn lb.l.op (o:Int) (u0,u1)=true->Rb m.v m.types[k].t lb.l.dn lb.l.op ((o:Int),v2)=false from fun h=>by rw [HV3.out,ay HME.out h];rfl)
        cases e1:(u1 == (o:Int)) with
        |false =>
         have HN:=hid (HNEXT.out (by unfold be;simp [e1]));clear HNEXT HBAD;go_wp2_with fail;go_roundw
         case rel=>exact ⟨k2+1,by omega,by go_num,HN.out,HR15.out,HB5.out,HBL5.out⟩
         case measure=>simp [intOf];omega
        |true =>
         go_wp2_with fail;refine (HH1.out u0 w5).mono ?_;rintro e w6 ⟨rfl,hw⟩;obtain rfl:=hw.symm
         cases g0:Aa lb.l.dn u0 with
         |true =>
          go_wp2_with fail;refine (HH2.out u0 w5).mono ?_;rintro e w6 ⟨rfl,hw⟩;obtain rfl:=hw.symm
          cases g2:Aa lb.l.op u0 with
          |true =>
           have HN:=hid (HBAD.out (by unfold be;simp [e1,g0,g2]));clear HNEXT HBAD;go_wp2_with fail;go_ret;exact ⟨rb HN.out.symm,HB5.out⟩
          |false =>
           have HN:=hid (HNEXT.out (by unfold be;simp [e1,g0,g2]));clear HNEXT HBAD;go_wp2_with fail;go_roundw
           case rel=>exact ⟨k2+1,by omega,by go_num,HN.out,HR15.out,HB5.out,HBL5.out⟩
           case measure=>simp [intOf];omega
         |false =>
          have HN:=hid (HBAD.out (by unfold be;simp [e1,g0]));clear HNEXT HBAD;go_wp2_with fail;go_ret;exact ⟨rb HN.out.symm,HB5.out⟩
       ·have hlt1:¬ (k2:Int)<(m.before.length:Int):=by omega
        have HALLb:=hid (ap (l:=m.before) (P:=fun p=>be lb.l.dn lb.l.op (o:Int) p=false) fun i hi=>HNO.out i hi (by omega));clear HNO;have HFIN:=hid (HV3.out.trans (by rw [am HALLb.out,Bool.not_false]));go_wp2_with fail;go_ret;exact ⟨rb HFIN.out.symm,HB.out⟩
def LodE (L:List Int) (w:World) (e:Ending) (w':World):Prop:=∃ (A:Option Addr) (c:Nat),e=.returned (.slice A L.length c)/\Ao w' w.heap.size A c L/\Below w.heap.size w w'
theorem lloaded_any (m:IM) (lb:Lb) (v:Int × Bool) (w:World) (hm:IA w m) (hok:IK m.v) (hml:m.ords.length<=3) (hat:Ah w lb) (hld:LO m.v 120000 lb.l.load) (hv:0<=v.1/\v.1<(m.ords.length:Int)) :
  Calls Tryz.prog 138 #[iA m,.agg lb.cells.toArray,.agg #[.int .i64 v.1,.bool v.2]] w (LodE (Ap m.v lb.l.load v) w):=by
 obtain ⟨v1,v2⟩:=v;obtain ⟨o,rfl⟩:∃ o:Nat,v1=(o:Int):=⟨v1.toNat,by simp only at hv;omega⟩
 simp only at hv;simp only;have ho:o<m.ords.length:=by omega
 obtain ⟨k1,k2,k3,kb⟩:=Av w (.cells (iQ m) 30) (.cells lb.cells.toArray 65) (.cells #[.int .i64 (o:Int),.bool v2] 92);have HB:=hid kb;have HK1:=hid k1;have HK2:=hid k2;have HK3:=hid k3;have hol:=hm.ol;have hol1:(o:Int)<(m.ords.length:Int):=by omega
 obtain ⟨go,oo,hOA,hgo,hoc⟩:=eP OM.cells_len (by decide) (hm.ords.below kb) (by omega);have HOC1:=hid (hoc o ho 1 _ rfl);have HGO:=hid hgo;have HOA:=hid hOA;have hoat:=hm.ordE _ (List.getElem_mem ho);have HLO:=hid (lk hok (i:=(o:Int)) (by omega) (by rw [oL];omega));have HLD:=hid hld;have HD3:=hid (df hok);have HOL:=hid (hoat.load.below kb)
 have HLL:=hid (hat.load.below kb);have HOB:=hid hoat.ll;have HLB:=hid hat.ll;have HLOF:=hid (Ln ho);have HLV:=hid (show Ap m.v lb.l.load ((o:Int),v2)=if v2 then Cy lb.l.load (lF m.v (o:Int)) else aD lb.l.load (lF m.v (o:Int)) from rfl);obtain ⟨om,hom⟩:∃ om,om=m.ords[o]:=⟨_,rfl⟩
 rw [<- hom] at HOC1 HOL HOB HLOF;rw [HLOF.out] at HLO;unfold maxLen at hol;clear hm hok k1 k2 k3 kb hoc hgo hOA hoat hom hat hld;go_enter Tryz.func138,Tryz.ntmps138;(try simp only [Bm]);go_upto_region 1 with fail;rw [iq];generalize ((w.alloc (.cells (iQ m) 30)).alloc (.cells lb.cells.toArray 65)).alloc (.cells #[.int .i64 (o:Int),.bool v2] 92)=wa at *
 obtain ⟨h1,hh1⟩:∃ h1,h1=w.heap.size:=⟨_,rfl⟩
 obtain ⟨h2,hh2⟩:∃ h2,h2=w.heap.size+1:=⟨_,rfl⟩
 obtain ⟨h3,hh3⟩:∃ h3,h3=w.heap.size+1+1:=⟨_,rfl⟩
 rw [<- hh3] at HK3;rw [<- hh2] at HK2;rw [<- hh1] at HK1;rw [<- hh3,<- hh2,<- hh1];clear hh1 hh2 hh3;have hd:Below wa.heap.size wa wa.drew:=(Below.refl _ wa).drew;have hS0:(fun w'=>Below wa.heap.size wa w') wa.drew:=hd
 cases v2 with
 |true =>
  have z1:=CX HK3.out 1 (.bool true) rfl;go_upto_region 3 with fail;clear z1;refine wp_region_held_drew (S:=fun w'=>Below wa.heap.size wa w') (by kernel_rfl) hS0 (fun _=>?_);refine tk 0 ?_;refine tq 1 (fun w hSw=>CX (rK HK2.out hSw) 6 (.slice lb.B lb.l.load.length lb.cb) rfl) ?_;refine tk 2 ?_;(try simp only [Act.put,P1,pu,P3]);refine Tv 3 (v:=?_) ?_ ?_;rotate_left
  ·(intro w hSw;have q0:=CX (rK HK1.out hSw) 3 (.slice m.oA m.ords.length m.oc) rfl;rw [HOA.out] at q0;go_simp;(try with_reducible rfl))
  refine tk 4 ?_;refine tq 5 (fun w hSw=>CX (rK HK3.out hSw) 0 (.int .i64 (o:Int)) rfl) ?_;refine tk 6 ?_;(try simp only [Act.put,P1,pu,P3]);refine tk 7 ?_;refine tq 8 (fun w hSw=>(hSw.cell (p:=⟨go,oo+o*16+1,none⟩) HGO.out).trans HOC1.out) ?_;(try simp only [Act.put,P1,pu,P3]);refine one 9 (fun K hK=>?_);go_simp
  refine (lsub_any lb.l.load om.o.load lb.B om.A lb.cb om.ca wa.drew (HLL.out.below hd) (HOL.out.below hd) HLB.out HOB.out (HLD.out.len.trans HLO.out.len.symm) (by rw [HLD.out.len];exact HD3.out) (HLD.out.bnd.mono (by omega)) (HLO.out.bnd.mono (by omega))).mono ?_;rintro e wb ⟨A1,c1,rfl,hown,hb1⟩;have HB1:=hid (bL hd hb1);have HOW:=hid hown;clear hown hb1
  refine hK.out _ _ (HB1.out) (fun _=>?_);clear hK K;refine tk 10 ?_;refine tk 11 ?_;refine tk 12 ?_;refine tk 13 ?_;(try simp only [Act.put,P1,pu,P3]);refine wpAnyH_done (by kernel_rfl) ?_ _;go_wp2_with fail;go_ret;exact ⟨A1,c1,Rs (by rw [HLV.out,HLOF.out];rfl),by rw [HLV.out,HLOF.out];exact HOW.out.mono HB.out.size,bL HB.out HB1.out⟩
 |false =>
  have z1:=CX HK3.out 1 (.bool false) rfl;go_upto_region 4 with fail;clear z1;refine wp_region_held_drew (S:=fun w'=>Below wa.heap.size wa w') (by kernel_rfl) hS0 (fun _=>?_);refine tk 0 ?_;refine tq 1 (fun w hSw=>CX (rK HK2.out hSw) 6 (.slice lb.B lb.l.load.length lb.cb) rfl) ?_;refine tk 2 ?_;(try simp only [Act.put,P1,pu,P3]);refine Tv 3 (v:=?_) ?_ ?_;rotate_left
  ·(intro w hSw;have q0:=CX (rK HK1.out hSw) 3 (.slice m.oA m.ords.length m.oc) rfl;rw [HOA.out] at q0;go_simp;(try with_reducible rfl))
  refine tk 4 ?_;refine tq 5 (fun w hSw=>CX (rK HK3.out hSw) 0 (.int .i64 (o:Int)) rfl) ?_;refine tk 6 ?_;(try simp only [Act.put,P1,pu,P3]);refine tk 7 ?_;refine tq 8 (fun w hSw=>(hSw.cell (p:=⟨go,oo+o*16+1,none⟩) HGO.out).trans HOC1.out) ?_;(try simp only [Act.put,P1,pu,P3]);refine one 9 (fun K hK=>?_);go_simp
  refine (Cf lb.l.load om.o.load lb.B om.A lb.cb om.ca wa.drew (HLL.out.below hd) (HOL.out.below hd) HLB.out HOB.out (HLD.out.len.trans HLO.out.len.symm) (by rw [HLD.out.len];exact HD3.out) (HLD.out.bnd.mono (by omega)) (HLO.out.bnd.mono (by omega))).mono ?_;rintro e wb ⟨A1,c1,rfl,hown,hb1⟩;have HB1:=hid (bL hd hb1);have HOW:=hid hown;clear hown hb1
  refine hK.out _ _ (HB1.out) (fun _=>?_);clear hK K;refine tk 10 ?_;refine tk 11 ?_;refine tk 12 ?_;refine tk 13 ?_;(try simp only [Act.put,P1,pu,P3]);refine wpAnyH_done (by kernel_rfl) ?_ _;go_wp2_with fail;go_ret;exact ⟨A1,c1,Rs (by rw [HLV.out,HLOF.out];rfl),by rw [HLV.out,HLOF.out];exact HOW.out.mono HB.out.size,bL HB.out HB1.out⟩
end Go.Proofs.YtjcekdiocliddaaGreatDoor

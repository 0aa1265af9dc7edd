/- best.keep, ready, visit. (Printed by wip/tk/mkTnI.py.) -/
import Derived.Test.YtjcekdiocliddaaGreatDoorTnH
namespace Go.Proofs.YtjcekdiocliddaaGreatDoor
open Lib (hid)
open Go.RowKit Num Txt Pf Tk
set_option maxHeartbeats 32000000
set_option maxRecDepth 100000
set_option linter.unusedVariables false
attribute [local go_sem] BS Bg Bt Bm Be Ba
def Cp (v u:Int × Int):Bool:=u.1 == v.1 && u.2 == v.2
theorem isSt_iff {v u:Int × Int}:Cp v u=true↔u=v:=by
 unfold Cp;rw [Bool.and_eq_true,beq_iff_eq,beq_iff_eq];exact ⟨fun h=>Prod.ext h.1 h.2,fun h=>by rw [h];exact ⟨rfl,rfl⟩⟩
def stIn (l:List (Int × Int)) (v:Int × Int):Bool:=l.any (Cp v)
abbrev stA (v:Int × Int):Value:=.agg #[.int .i64 v.1,.int .i64 v.2]
theorem stindex_any (l:List (Int × Int)) (v:Int × Int) (A:Option Addr) (c:Nat) (w:World) (hc:Cs w A (l.flatMap PC)) (hn:l.length<=c/\c<=maxLen) :
  Calls Tryz.prog 166 #[.slice A l.length c,stA v] w fun e w'=>e=.returned (.int .i64 (IZ (Cp v) l))/\Below w.heap.size w w':=by
 unfold maxLen at hn;obtain ⟨n4,p4⟩:=Na w (.cells #[.int .i64 v.1,.int .i64 v.2] 178);have HC:=hid (hc.below n4);have HN4:=hid n4;have HP4:=hid p4;clear hc n4 p4;go_enter Tryz.func166,Tryz.ntmps166;(try simp only [Bm]);go_upto_region 1 with fail;generalize w.alloc (.cells #[.int .i64 v.1,.int .i64 v.2] 178)=wa at *;obtain ⟨g4,hg4⟩:∃ g4,g4=w.heap.size:=⟨_,rfl⟩
 rw [<- hg4] at HP4;rw [<- hg4];clear hg4;go_wp2_with fail;go_loopw [4,5,8] (fun _ _ j wr=>∃ k:Nat,k<=l.length/\j=.int .i64 k/\(∀ i (h:i<l.length),i<k->Cp v l[i]=false)/\Below wa.heap.size wa wr) (fun _ _ j _=>l.length - (intOf j).toNat)
 case atStart=>exact ⟨0,Nat.zero_le _,rfl,fun i _ h=>absurd h (Nat.not_lt_zero _),Below.refl _ _⟩
 case round =>
  obtain ⟨k,hk,rfl,hno,hbel⟩:=hrel;have HNO:=hid hno;have HB:=hid hbel;have HQ:=hid (show ∀ nq,Below wa.heap.size wa (wr.drewN nq) from fun nq=>below_drewN hbel nq);clear hno hbel;by_cases hlt:k<l.length
  ·have hlt1:(k:Int)<(l.length:Int):=by omega
   obtain ⟨g1,o1,hA1,hg1,hx1⟩:=eP pC (by decide) HC.out (by omega);subst hA1;have x0:=(HB.out.cell (p:=⟨g1,o1+k*2+0,none⟩) hg1).trans (hx1 k hlt 0 _ rfl);have x1:=(HB.out.cell (p:=⟨g1,o1+k*2+1,none⟩) hg1).trans (hx1 k hlt 1 _ rfl);have y0:=CX (rK HP4.out HB.out) 0 (.int .i64 v.1) rfl;have y1:=CX (rK HP4.out HB.out) 1 (.int .i64 v.2) rfl;rw [Nat.add_zero] at x0
   have HYES:=hid (fun h=>It hlt HNO.out h)
   have HNEXT:=hid (show Cp v l[k]=false->∀ i (h:i<l.length),i<k+1->Cp v l[i]=false from fun h i hi hik=>by
    by_cases e:i=k
    ·subst e;exact h
    ·exact HNO.out i hi (by omega))
   clear hx1;obtain ⟨u,hu⟩:∃ u,u=l[k]:=⟨_,rfl⟩
   rw [<- hu] at x0 x1 HYES HNEXT;clear hu;by_cases h0:u.1=v.1
   ·rw [h0] at x0
    by_cases h1:u.2=v.2
    ·rw [h1] at x1
     have HR:=hid (HYES.out (isSt_iff.2 (Prod.ext h0 h1)));clear h0 h1 HYES HNEXT;generalize v.1=v0 at *;generalize v.2=v1 at *;go_wp2_with fail;go_quiet (fail)
     have HB0:=hid (HQ.out nq);go_wp2_with fail;go_ret;exact ⟨ri HR.out.symm,HN4.out.trans (HB0.out.mono HN4.out.size)⟩
    ·have HR:=hid (HNEXT.out (by unfold Cp;rw [h0,beq_eq_false_iff_ne.2 h1];simp))
     have e1:(v.2 == u.2)=false:=beq_eq_false_iff_ne.2 (fun e=>h1 e.symm);clear h0 h1 HYES HNEXT;generalize v.1=v0 at *;generalize v.2=v1 at *;generalize u.2=u1 at *;go_wp2_with fail;go_quiet (fail)
     have HB0:=hid (HQ.out nq);go_wp2_with fail;go_roundw
     case rel=>exact ⟨k+1,by omega,by go_num,HR.out,HB0.out⟩
     case measure=>simp [intOf];omega
   ·have HR:=hid (HNEXT.out (by unfold Cp;rw [beq_eq_false_iff_ne.2 h0];rfl))
    have e1:(v.1 == u.1)=false:=beq_eq_false_iff_ne.2 (fun e=>h0 e.symm);clear h0 HYES HNEXT;generalize v.1=v0 at *;generalize v.2=v1 at *;generalize u.1=u0 at *;generalize u.2=u1 at *;go_wp2_with fail;go_quiet (fail)
    have HB0:=hid (HQ.out nq);go_wp2_with fail;go_roundw
    case rel=>exact ⟨k+1,by omega,by go_num,HR.out,HB0.out⟩
    case measure=>simp [intOf];omega
  ·have hlt1:¬ (k:Int)<(l.length:Int):=by omega
   have HR:=hid (io (p:=Cp v) (l:=l) fun j hj=>HNO.out j hj (by omega));go_wp2_with fail;go_ret;exact ⟨ri HR.out.symm,HN4.out.trans (HB.out.mono HN4.out.size)⟩
theorem stcont_any (l:List (Int × Int)) (v:Int × Int) (A:Option Addr) (c:Nat) (w:World) (hc:Cs w A (l.flatMap PC)) (hn:l.length<=c/\c<=maxLen) :
  Calls Tryz.prog 134 #[.slice A l.length c,stA v] w fun e w'=>e=.returned (.bool (stIn l v))/\Below w.heap.size w w':=by
 obtain ⟨n4,p4⟩:=Na w (.cells #[.int .i64 v.1,.int .i64 v.2] 178);have HC:=hid (stindex_any l v A c _ (hc.below n4) hn);have HN4:=hid n4;have HP4:=hid p4;have HZ:=hid (show decide (0<=IZ (Cp v) l)=stIn l v from Iy _ _);have hzb:=iZ (Cp v) l;clear hc n4 p4;go_enter Tryz.func134,Tryz.ntmps134;(try simp only [Bm]);go_upto_region 1 with fail
 generalize w.alloc (.cells #[.int .i64 v.1,.int .i64 v.2] 178)=wa at *;go_wp2_with (refine lr HP4.out Tryz.underlying178 ?_)
 refine HC.out.mono ?_;rintro e w1 ⟨rfl,hb1⟩;have HB1:=hid (bL HN4.out hb1);clear hb1 HC HP4;generalize IZ (Cp v) l=z at *;go_wp2_with fail;go_ret;exact ⟨rb HZ.out,HB1.out⟩
abbrev StO (w:World) (Bs:Nat) (A:Option Addr) (c:Nat) (L:List (Int × Int)):Prop:=OR w Bs 178 2 A L.length c (L.flatMap PC)
theorem st_info:(Tryz.prog.info? 178).map (fun i=>(i.zero,i.size,i.bytes))=some (some (.agg #[.int .i64 0,.int .i64 0]),2,16):=by kernel_rfl
theorem el_st:ER Tryz.prog 102 178 (.agg #[.int .i64 0,.int .i64 0]) 2 16:=⟨Tryz.underlying102,info_parts st_info,rfl,by decide⟩
section
variable {P:Program} {ops:Array Oper} {rest:List Oper} {o:Oper} {a:Act} {Q:Exit->Act->World->Prop}
theorem wp_st {t e:TypeId} {z:Value} {sz bytes:Nat} (he:ER P t e z sz bytes) (hgd:o.guard=none) (s x:Operand) (ho:o.op=.call { callee:=.builtin .append,args:=#[s,x],argTypes:=#[t,t] }) (het:e=178) (hsz:sz=2) (hby:bytes=16)
  (Bs:Nat) (A:Option Addr) (n c:Nat) (vs:List (Int × Int)) (hn:n=vs.length) (w:World) (v:Int × Int) (hs:a.eval s=.slice A n c) (hown:StO w Bs A c vs)
  (hx:a.eval x=.slice (some ⟨w.heap.size,0,none⟩) 1 1) (hl:vs.length<=1099511627776) (hbase:Bs<=w.heap.size)
  (h:∀ A' c' w',StO w' Bs A' c' (vs ++ [v])->Below Bs w w'->KA A w w'->wpList P ops Q rest (a.put o.dst (.slice A' (n+1) c')) w') :
  wpList P ops Q (o :: rest) a (w.alloc (.cells #[.int .i64 v.1,.int .i64 v.2] e)):=by
 subst het hsz hby hn;refine wk he hgd s x ho Bs A vs.length c (vs.flatMap PC) w #[.int .i64 v.1,.int .i64 v.2] hs hown hx rfl (by intro u hu;simp at hu;rcases hu with rfl | rfl <;> rfl) (by unfold maxLen;omega) (by omega) hbase ?_;intro A' c' w' h1 h2 h3;have hlen:=sL vs v;have e2:(vs ++ [v]).flatMap PC=vs.flatMap PC ++ [.int .i64 v.1,.int .i64 v.2]:=by rw [<- Fs];rfl
 exact h A' c' w' (by show OR _ _ _ _ _ _ _ _;rw [hlen,e2];exact h1) h2 h3
end
def kL (L:List (Int × Int)) (s:Int × Int):List (Int × Int):=if stIn L s then L else L ++ [s]
theorem Kn (L:List (Int × Int)) (s:Int × Int):(kL L s).length<=L.length+1:=by
 unfold kL;split
 ·omega
 ·rw [sL];exact Nat.le_refl _
abbrev sts:List TypeId:=[178]
def StE (Bs:Nat) (L:List (Int × Int)) (w:World) (e:Ending) (w':World):Prop:=∃ (A:Option Addr) (c:Nat),e=.returned (.slice A L.length c)/\StO w' Bs A c L/\Below Bs w w'/\KT sts w w'
theorem bkeep_any (L:List (Int × Int)) (s:Int × Int) (Bs:Nat) (A:Option Addr) (c:Nat) (w:World) (hl:StO w Bs A c L) (hB:Bs<=w.heap.size) (hlen:L.length<=1000000) :
  Calls Tryz.prog 85 #[.slice A L.length c,stA s] w (StE Bs (kL L s) w):=by
 obtain ⟨n4,p4⟩:=Na w (.cells #[.int .i64 s.1,.int .i64 s.2] 178);have HN4:=hid n4;have HP4:=hid p4;have HL:=hid (OR.below hl n4);have HCT:=hid (stcont_any L s A c _ (OR.cells (OR.below hl n4)) (OR.cap hl));have HB:=hid hB;clear n4 p4 hl hB;go_enter Tryz.func85,Tryz.ntmps85;(try simp only [Bm]);go_upto_region 1 with fail
 generalize w.alloc (.cells #[.int .i64 s.1,.int .i64 s.2] 178)=wa at *;obtain ⟨h1,hh1⟩:∃ h1,h1=w.heap.size:=⟨_,rfl⟩
 rw [<- hh1] at HP4;rw [<- hh1];clear hh1;go_wp2_with (refine lr HP4.out Tryz.underlying178 ?_)
 refine HCT.out.mono ?_;rintro e w1 ⟨rfl,hb1⟩;have HB1:=hid (bL HN4.out hb1);have HP41:=hid (rK HP4.out hb1);have HL1:=hid (OR.below HL.out hb1);have HBS:=hid (Nat.le_trans HB.out HB1.out.size);clear hb1 HCT HL HP4
 cases hs:stIn L s with
 |true =>
  have HE:=hid (show kL L s=L by unfold kL;rw [hs];rfl);clear hs;go_wp2_with fail;go_ret;exact ⟨A,c,Rs (by rw [HE.out]),by rw [HE.out];exact HL1.out,HB1.out.mono HB.out,KT.below HB1.out⟩
 |false =>
  have HE:=hid (show kL L s=L ++ [s] by unfold kL;rw [hs];rfl);clear hs;go_wp2_with (first | (refine lr HP41.out Tryz.underlying178 ?_) | (at_builtin;go_loud (refine wp_st el_st rfl _ _ rfl rfl rfl rfl Bs A L.length c L rfl w1 s rfl HL1.out rfl (by omega) HBS.out ?_;intro A4 c4 w4 hown4 hb4 hkp4)))
  go_ret;exact ⟨A4,c4,Rs (by rw [HE.out,sL]),by rw [HE.out];exact hown4,(HB1.out.mono HB.out).trans hb4,(KT.below HB1.out).trans (KT.kpa hkp4 HL1.out (by decide))⟩
structure CM where
 kind:Int
 set:Int
 price:Int
 rk:Int
 A:Option Addr
 c:Nat
 vis:List (Int × Bool)
def cZ:CM:=⟨0,0,0,0,none,0,[]⟩
def CR (c:CM):Array Value:=#[.int .i64 c.kind,.int .i64 c.set,.int .i64 c.price,.int .i64 c.rk,.int .i64 0,.slice none 0 0,.slice c.A c.vis.length c.c]
def sr (m:IM) (k s t:Int) (c:CM) (f:Bool):Array Value:=#[.slice m.pA m.places.length m.pc,.slice m.aA m.arcs.length m.ac,.slice m.tA m.types.length m.tc,.slice m.oA m.ords.length m.oc,.slice m.xA m.apart.length m.xc,.slice m.bA m.before.length m.bc,.int .i64 k,.int .i64 s,.int .i64 t,
 .int .i64 c.kind,.int .i64 c.set,.int .i64 c.price,.int .i64 c.rk,.int .i64 0,.slice none 0 0,.slice c.A c.vis.length c.c,.bool f]
def rL (t:TV) (L:List (Int × Int)) (d v:Int):List (Int × Int):=kL (kL L (d,v)) (d+t.rest,0)
theorem readyL_len (t:TV) (L:List (Int × Int)) (d v:Int):(rL t L d v).length<=L.length+2:=by
 unfold rL;have h1:=Kn (kL L (d,v)) (d+t.rest,0);have h2:=Kn L (d,v);omega
theorem bready_any (m:IM) (k:Nat) (s t:Int) (cm:CM) (f:Bool) (gs:Nat) (L:List (Int × Int)) (d v:Int) (Bs:Nat) (A:Option Addr) (c:Nat) (w0 w:World) (hm:IA w0 m) (hb0:Below w0.heap.size w0 w) (hB0:w0.heap.size<=Bs) (hk:k<m.types.length)
  (hg:w.heap[gs]? = some (.cells (sr m k s t cm f) 98)) (hgb:gs<Bs) (hl:StO w Bs A c L) (hB:Bs<=w.heap.size) (hlen:L.length<=100000) (hd:0<=d/\d<=1000000) (hr:0<=m.types[k].t.rest/\m.types[k].t.rest<=4096) :
  Calls Tryz.prog 35 #[.pointer (some ⟨gs,0,none⟩),.slice A L.length c,.int .i64 d,.int .i64 v] w (StE Bs (rL m.types[k].t L d v) w):=by
 have HG:=hid hg;have HB:=hid hB;have hkl:=Kn L (d,v);have HK1:=hid (bkeep_any L (d,v) Bs A c w hl hB (by omega));have HK2:=hid (fun (A2:Option Addr) (c2:Nat) (w':World) (r:Int) (h:StO w' Bs A2 c2 (kL L (d,v))) (hb:Below Bs w w')=>bkeep_any (kL L (d,v)) (r,0) Bs A2 c2 w' h (Nat.le_trans hB hb.size) (by omega))
 have HTX:=hid (show ∀ (wz:World),Below Bs w wz->∃ gt ot,m.tA=some ⟨gt,ot,none⟩/\gt<Bs/\wz.cell? ⟨gt,ot+k*14+10,none⟩=some (.int .i64 m.types[k].t.rest) from fun wz hb=>by
  obtain ⟨g1,o1,hA1,hg1,hx1⟩:=eP Ty.cells_len (by decide) hm.types (by omega);exact ⟨g1,o1,hA1,Nat.lt_of_lt_of_le hg1 hB0,((hb0.trans (hb.mono hB0)).cell (p:=⟨g1,o1+k*14+10,none⟩) hg1).trans (hx1 k hk 10 _ rfl)⟩)
 have HGB:=hid hgb;have HD:=hid (show rL m.types[k].t L d v=kL (kL L (d,v)) (d+m.types[k].t.rest,0) from rfl);have hk2:(k:Int)<(m.types.length:Int):=by omega
 have htl:=hm.tl;unfold maxLen at htl;clear hm hg hl hB hb0 hB0;go_enter Tryz.func35,Tryz.ntmps35;(try simp only [Bm]);go_wp2_with fail;refine HK1.out.mono ?_;rintro e w1 ⟨A1,c1,rfl,hown1,hb1,hk1⟩;have HKT1:=hid hk1;have HO1:=hid hown1;have HB1:=hid hb1;have HG1:=hid (show w1.heap[gs]? = some (.cells (sr m k s t cm f) 98) by rw [hb1.block gs HGB.out];exact HG.out)
 obtain ⟨gt,ot,hA1,hgtb,hx⟩:=HTX.out w1 hb1;have HGTB:=hid hgtb;clear hgtb;obtain ⟨K,hK⟩:∃ K,K=kL L (d,v):=⟨_,rfl⟩
 rw [<- hK] at HO1 HK2 HD;rw [<- hK];have HKL:=hid (show K.length<=L.length+1 by rw [hK];exact hkl);clear hown1 hb1 hk1 HK1 HG hK HTX hkl;generalize m.types[k].t.rest=r at *;go_upto_region 2 with fail;have hd1:Below w1.heap.size w1 w1.drew:=(Below.refl _ w1).drew;have HG1T:=hid hgb
 have hS0:(fun w'=>w'.heap[gs]? = some (.cells (sr m k s t cm f) 98)/\w'.cell? ⟨gt,ot+k*14+10,none⟩=some (.int .i64 r)/\Below Bs w w') w1.drew:=⟨HG1.out,hx,HB1.out.drew⟩
 refine wp_region_held_drew (S:=fun w'=>w'.heap[gs]? = some (.cells (sr m k s t cm f) 98)/\w'.cell? ⟨gt,ot+k*14+10,none⟩=some (.int .i64 r)/\Below Bs w w') (by kernel_rfl) hS0 (fun _=>?_);refine td 0 ?_;refine td 1 ?_;refine td 2 ?_;refine td 3 ?_;refine td 4 ?_;refine td 5 ?_;refine tq 6 (fun w hSw=>CX hSw.1 2 (.slice m.tA m.types.length m.tc) rfl) ?_;refine td 7 ?_;refine td 8 ?_
 refine td 9 ?_;refine tq 10 (fun w hSw=>CX hSw.1 6 (.int .i64 (k:Int)) rfl) ?_;refine td 11 ?_;refine td 12 ?_;refine tq 13 (fun w hSw=>hSw.2.1) ?_;(try simp only [Act.put,P1,pu,P3]);refine Tv 14 (v:=.int .i64 (d+r)) ?_ ?_
 ·(intro w hSw;have e1:IntKind.i64.wrap (d+r)=d+r:=wrap_small (by omega) (by omega);go_simp;first | done | rfl | (rw [e1]) | (simp [e1]))
 (try simp only [Act.put,P1,pu,P3]);refine Tv 15 (v:=.agg (#[.int .i64 (d+r),.int .i64 0])) ?_ ?_
 ·(intro w hSw;exact yl_build 178 _ rfl (#[.int .i64 (d+r),.int .i64 0]) (by kernel_rfl))
 (try simp only [Act.put,P1,pu,P3]);refine one 16 (fun K hK=>?_);go_simp;refine (HK2.out A1 c1 w1.drew (d+r) (OR.below HO1.out hd1) HB1.out.drew).mono ?_;rintro e w2 ⟨A2,c2,rfl,hown2,hb2,hk2⟩;have HKT2:=hid ((HKT1.out.trans (KT.below hd1)).trans hk2);have HO2:=hid hown2;have HB2:=hid (HB1.out.drew.trans hb2)
 refine hK.out _ _ (⟨by rw [hb2.block gs HG1T.out];exact HG1.out,by rw [<- hx];exact hb2.cell (p:=⟨gt,ot+k*14+10,none⟩) HGTB.out,HB2.out⟩) (fun _=>?_);clear hK K;refine td 17 ?_;(try simp only [Act.put,P1,pu,P3]);refine wpAnyH_done (by kernel_rfl) ?_ _;go_wp2_with fail;go_ret;exact ⟨A2,c2,Rs (by rw [HD.out]),by rw [HD.out];exact HO2.out,HB2.out,HKT2.out⟩
def sS (x:IV) (t:TV) (frm:Int) (s:St) (out:List (Int × Int)) (a:Int × Int):List (Int × Int) :=
 if (gP x t.prof frm s.place a.1).2.2≠0 then out else if t.drive<a.2+(gP x t.prof frm s.place a.1).1 - a.1 then out else if dE s (gP x t.prof frm s.place a.1).1≠0 then out
 else rL t out (DV s (gP x t.prof frm s.place a.1).1) (a.2+(gP x t.prof frm s.place a.1).1 - a.1)
def vL (x:IV) (t:TV) (frm:Int) (s:St) (L:List (Int × Int)):List (Int × Int):=L.foldl (sS x t frm s) []
theorem fT {α β:Type} {l:List α} {k:Nat} (h:k<l.length) (f:β->α->β) (b:β):(l.take (k+1)).foldl f b=f ((l.take k).foldl f b) l[k]:=by
 rw [Ts h,List.foldl_append];rfl
theorem stepSt_len (x:IV) (t:TV) (frm:Int) (s:St) (out:List (Int × Int)) (a:Int × Int):(sS x t frm s out a).length<=out.length+2:=by
 unfold sS;split
 ·omega
 split
 ·omega
 split
 ·omega
 ·exact readyL_len t out _ _
theorem Vl (x:IV) (t:TV) (frm:Int) (s:St) (L:List (Int × Int)):∀ k,k<=L.length->((L.take k).foldl (sS x t frm s) []).length<=2*k
 |0,_=>by simp
 |k+1,h=>by
  rw [fT (show k<L.length by omega)];have h1:=Vl x t frm s L k (by omega);have h2:=stepSt_len x t frm s ((L.take k).foldl (sS x t frm s) []) (L[k]'(by omega));omega
theorem net_cells {m:IM} {k s t:Int} {cm:CM} {f:Bool} {j:Nat} {v:Value} (h:[Value.slice m.pA m.places.length m.pc,.slice m.aA m.arcs.length m.ac][j]? = some v):(sr m k s t cm f)[j]? = some v:=by
 match j,h with
 |0,h=>exact h
 |1,h=>exact h
 |j+2,h=>simp at h
def StOK (a:Int × Int):Prop:=(0<=a.1/\a.1<=20000)/\(0<=a.2/\a.2<=4096)
theorem bvisit_any (m:IM) (k:Nat) (s t:Int) (cm:CM) (f:Bool) (gs:Nat) (L:List (Int × Int)) (frm:Int) (st:St) (A:Option Addr) (c:Nat) (w0 w:World) (hm:IA w0 m) (hok:IK m.v) (hT:Tb w0) (hb0:Below w0.heap.size w0 w) (hk:k<m.types.length)
  (hg:w.heap[gs]? = some (.cells (sr m k s t cm f) 98)) (hl:Cs w A (L.flatMap PC)) (hn:L.length<=c/\c<=maxLen) (hlen:L.length<=10000) (hst:SK st) (hL:∀ a ∈ L,StOK a) :
  Calls Tryz.prog 83 #[.pointer (some ⟨gs,0,none⟩),.int .i64 frm,.slice A L.length c,Dk st] w (StE w.heap.size (vL m.v m.types[k].t frm st L) w):=by
 obtain ⟨n4,p4⟩:=Na w (.cells (SR st) 134);have HN4:=hid n4;have HP4:=hid p4;have HC:=hid hl;have HG:=hid hg;have htl:=hm.tl;have hty:=hok.types _ (Ti (List.getElem_mem hk));have HTR:=hid hty.rest;have HTD:=hid hty.drive;have hnt:m.types.length<=2:=by have h:=hok.nt;unfold IM.v at h;rw [List.length_map] at h;exact h
 have HGO:=hid (fun (pr fr tg q:Int) (w':World) (hb:Below w.heap.size w w') (hq:0<=q/\q<=1000000)=>Ny m pr fr tg q w' (hm.below (hb0.trans (hb.mono hb0.size))) hok hq (hT.below (hb0.trans (hb.mono hb0.size))));have HGB:=hid (fun (pr fr tg q:Int) (hq:0<=q)=>GP hok pr fr tg hq);have HDP:=hid (fun (q:Int) (w':World) (hq:0<=q/\q<=1000000)=>wY st q w' hst hq)
 have HSO:=hid (Sl hst);have HRY:=hid (fun (O:List (Int × Int)) (d v:Int) (A2:Option Addr) (c2:Nat) (w':World) (hb:Below w.heap.size w w') (ho:StO w' w.heap.size A2 c2 O) (hol:O.length<=100000) (hd:0<=d/\d<=1000000)=>bready_any m k s t cm f gs O d v w.heap.size A2 c2 w0 w' hm (hb0.trans (hb.mono hb0.size)) hb0.size hk (rK hg hb) (lh hg) ho hb.size hol hd hty.rest)
 have HLL:=hid hL
 obtain ⟨gt,ot,hA1,hgt,hTC⟩:∃ gt ot,m.tA=some ⟨gt,ot,none⟩/\gt<w.heap.size/\∀ j v,(m.types[k].cells)[j]? = some v->w.cell? ⟨gt,ot+k*14+j,none⟩=some v:=by
  obtain ⟨g1,o1,hA1,hg1,hx1⟩:=eP Ty.cells_len (by decide) (hm.types.below hb0) (by omega);exact ⟨g1,o1,hA1,hg1,fun j v h=>hx1 k hk j v h⟩
 have HTC0:=hid hTC;have hk2:(k:Int)<(m.types.length:Int):=by omega
 obtain ⟨ty,hte⟩:∃ ty,ty=m.types[k]:=⟨_,rfl⟩
 rw [<- hte] at HTR HTD HTC0 HRY;rw [<- hte];unfold maxLen at htl hn;clear hm hg hl hL hT hok hty hTC n4 p4 hte hb0;go_enter Tryz.func83,Tryz.ntmps83;(try simp only [Bm]);go_upto_region 1 with fail;rw [show w.alloc (.cells #[.int .i64 st.place,.int .i64 st.opn,.int .i64 st.cls,.int .i64 st.serv] 134)=w.alloc (.cells (SR st) 134) from rfl];generalize w.alloc (.cells (SR st) 134)=wa at *
 obtain ⟨h7,hh7⟩:∃ h7,h7=w.heap.size:=⟨_,rfl⟩
 rw [<- hh7] at HP4;have HH7:=hid hh7;have HGA:=hid (rK HG.out HN4.out);have HTC:=hid (fun j v h=>(HN4.out.cell (p:=⟨gt,ot+k*14+j,none⟩) hgt).trans (HTC0.out j v h));have HGTB:=hid (show gt<wa.heap.size from Nat.lt_of_lt_of_le hgt HN4.out.size);rw [<- hh7];have HGR:=HG;clear hgt HTC0 HG hh7
 go_cut [9] (fun u wx=>u=.pointer (some ⟨wa.heap.size,0,none⟩)/\wx.heap[wa.heap.size]? = some (.cells ty.cells.toArray 81)/\Below wa.heap.size wa wx)
 case first =>
  as_aux_lemma =>
  have hd1:Below wa.heap.size wa wa.drew:=(Below.refl _ wa).drew;have hS0:(fun w'=>w'.heap[gs]? = some (.cells (sr m k s t cm f) 98)/\(∀ j v,ty.cells[j]? = some v->w'.cell? ⟨gt,ot+k*14+j,none⟩=some v)/\Below wa.heap.size wa w') wa.drew:=⟨HGA.out,HTC.out,hd1⟩
  refine wp_region_held_drew (S:=fun w'=>w'.heap[gs]? = some (.cells (sr m k s t cm f) 98)/\(∀ j v,ty.cells[j]? = some v->w'.cell? ⟨gt,ot+k*14+j,none⟩=some v)/\Below wa.heap.size wa w') (by kernel_rfl) hS0 (fun _=>?_);refine td 0 ?_;(try simp only [Act.put,P1,pu,P3]);refine td 1 ?_;(try simp only [Act.put,P1,pu,P3]);refine td 2 ?_;(try simp only [Act.put,P1,pu,P3]);refine td 3 ?_
  (try simp only [Act.put,P1,pu,P3]);refine tq 4 (fun w hSw=>CX hSw.1 2 (.slice m.tA m.types.length m.tc) rfl) ?_;(try simp only [Act.put,P1,pu,P3]);refine td 5 ?_;(try simp only [Act.put,P1,pu,P3]);refine td 6 ?_;(try simp only [Act.put,P1,pu,P3]);refine td 7 ?_;(try simp only [Act.put,P1,pu,P3]);refine tq 8 (fun w hSw=>CX hSw.1 6 (.int .i64 (k:Int)) rfl) ?_
  (try simp only [Act.put,P1,pu,P3]);refine td 9 ?_;(try simp only [Act.put,P1,pu,P3]);refine Tv 10 (v:=.agg ((ty.cells).toArray)) ?_ ?_
  ·(intro w hSw;exact yl_cells 81 _ rfl gt (ot+k*14) rfl (ty.cells) _ Tryz.underlying81 rfl (by kernel_rfl) (hSw.2.1))
  (try simp only [Act.put,P1,pu,P3]);obtain ⟨nA,pA⟩:=Na wa.drew (.cells #[.string ByteArray.empty,.int .i64 0,.int .i64 0,.int .i64 0,.slice none 0 0,.int .i64 0,.int .i64 0,.int .i64 0,.int .i64 0,.int .i64 0,.int .i64 0,.int .i64 0,.int .i64 0,.int .i64 0] 81);have hBA:=bL hd1 nA
  have hSA:(wa.drew.alloc (.cells #[.string ByteArray.empty,.int .i64 0,.int .i64 0,.int .i64 0,.slice none 0 0,.int .i64 0,.int .i64 0,.int .i64 0,.int .i64 0,.int .i64 0,.int .i64 0,.int .i64 0,.int .i64 0,.int .i64 0] 81)).heap[gs]? = some (.cells (sr m k s t cm f) 98)/\(∀ j v,ty.cells[j]? = some v->(wa.drew.alloc (.cells #[.string ByteArray.empty,.int .i64 0,.int .i64 0,.int .i64 0,.slice none 0 0,.int .i64 0,.int .i64 0,.int .i64 0,.int .i64 0,.int .i64 0,.int .i64 0,.int .i64 0,.int .i64 0,.int .i64 0] 81)).cell? ⟨gt,ot+k*14+j,none⟩=some v)/\Below wa.heap.size wa (wa.drew.alloc (.cells #[.string ByteArray.empty,.int .i64 0,.int .i64 0,.int .i64 0,.slice none 0 0,.int .i64 0,.int .i64 0,.int .i64 0,.int .i64 0,.int .i64 0,.int .i64 0,.int .i64 0,.int .i64 0,.int .i64 0] 81)):=⟨rK (w:=wa.drew) HGA.out nA,fun j v h=>(hBA.cell (p:=⟨gt,ot+k*14+j,none⟩) HGTB.out).trans (HTC.out j v h),hBA⟩
  refine one 11 (fun K hK=>?_);refine Wg (by rfl) ?_;refine Wa 81 rfl (#[.string ByteArray.empty,.int .i64 0,.int .i64 0,.int .i64 0,.slice none 0 0,.int .i64 0,.int .i64 0,.int .i64 0,.int .i64 0,.int .i64 0,.int .i64 0,.int .i64 0,.int .i64 0,.int .i64 0]) (by kernel_rfl) ?_;refine hK.out _ _ (hSA) (fun _=>?_);clear hK K;(try simp only [Act.put,P1,pu,P3])
  refine one 12 (fun K hK=>?_);refine Wg (by rfl) ?_;refine wp_store_row 81 _ _ rfl wa.drew.heap.size ty.cells.toArray rfl rfl 81 _ pA (by kernel_rfl) rfl (by kernel_rfl) ?_
  refine hK.out _ _ (⟨(setRow_other _ _ _ _ (Nat.ne_of_lt (lh HGA.out))).trans hSA.1,fun j v h=>(World.cell?_of_block (setRow_other _ _ _ _ (Nat.ne_of_lt HGTB.out))).trans (hSA.2.1 j v h),below_setRow hSA.2.2 (Nat.le_refl _) _⟩) (fun _=>?_);clear hK K;(try simp only [Act.put]);refine wpAnyH_done (by kernel_rfl) ?_ _;go_wp2_with fail;go_meet
  exact ⟨rfl,setRow_heap _ _ _ _ _ _ pA,below_setRow hSA.2.2 (Nat.le_refl _) _⟩
 case rest =>
  rename World=>w2;obtain ⟨rfl,hty2,hb2⟩:=hcut;have HY2:=hid hty2;have HB2:=hid (bL HN4.out hb2);have HS2:=hid (rK HP4.out hb2);have HG:=hid (show w.heap[gs]? = some (.cells (sr m k s t cm f) 98) from HGR.out);obtain ⟨gy,hgy⟩:∃ gy,gy=wa.heap.size:=⟨_,rfl⟩
  rw [<- hgy] at HY2;rw [<- hgy];clear hty2 hb2 hgy HGA HTC HP4 HN4;go_wp2_with fail
  go_loopw [10,30] (fun o j wr=>∃ (i:Nat) (A1:Option Addr) (c1:Nat),i<=L.length/\j=.int .i64 i/\o=.slice A1 ((L.take i).foldl (sS m.v ty.t frm st) []).length c1/\StO wr w.heap.size A1 c1 ((L.take i).foldl (sS m.v ty.t frm st) [])/\wr.heap[gy]? = some (.cells ty.cells.toArray 81)/\wr.heap[h7]? = some (.cells (SR st) 134)/\Below w.heap.size w wr) (fun _ j _=>L.length - (intOf j).toNat)
  case atStart=>exact ⟨0,none,0,Nat.zero_le _,rfl,rfl,OR.nil _ _ _ _,HY2.out,HS2.out,HB2.out⟩
  case round =>
   clear HY2 HS2 HB2;obtain ⟨i,A1,c1,hi,rfl,rfl,hown,hry,hrs,hbel⟩:=hrel;have HOW:=hid hown;have HRY1:=hid hry;have HRS:=hid hrs;have HB:=hid hbel;clear hown hry hrs hbel;by_cases hlt:i<L.length
   ·have hlt1:(i:Int)<(L.length:Int):=by omega
    obtain ⟨g1,o1,hA2,hg1,hx1⟩:=eP pC (by decide) HC.out (by omega);have x0:=(HB.out.cell (p:=⟨g1,o1+i*2+0,none⟩) hg1).trans (hx1 i hlt 0 _ rfl);have x1:=(HB.out.cell (p:=⟨g1,o1+i*2+1,none⟩) hg1).trans (hx1 i hlt 1 _ rfl);rw [Nat.add_zero] at x0;have HFT:=hid (fT hlt (sS m.v ty.t frm st) []);have hvl:=Vl m.v ty.t frm st L i hi
    have hsok:=HLL.out _ (List.getElem_mem hlt);rw [hA2];clear hx1 hA2;obtain ⟨a,ha⟩:∃ a,a=L[i]:=⟨_,rfl⟩
    rw [<- ha] at x0 x1 HFT hsok;clear ha;obtain ⟨O,hO⟩:∃ O,O=(L.take i).foldl (sS m.v ty.t frm st) []:=⟨_,rfl⟩
    rw [<- hO] at HOW HFT hvl;rw [<- hO];clear hO;obtain ⟨a0,a1⟩:=a;unfold StOK at hsok;simp only at x0 x1 hsok;obtain ⟨n5,p5⟩:=Na wr (.cells #[.int .i64 a0,.int .i64 a1] 178);go_upto_region 6 with fail;generalize hw5:wr.alloc (.cells #[.int .i64 a0,.int .i64 a1] 178)=w5 at *;clear hw5;have HB5:=hid (HB.out.trans (n5.mono HB.out.size));have HY5:=hid (rK HRY1.out n5)
    have HS5:=hid (rK HRS.out n5);have HO5:=hid (OR.below HOW.out n5);have HP5:=hid p5;obtain ⟨g5,hg5⟩:∃ g5,g5=wr.heap.size:=⟨_,rfl⟩
    rw [<- hg5] at HP5;rw [<- hg5];have hgb:=HGB.out ty.t.prof frm st.place a0 (by omega);clear n5 p5 hg5 x0 x1 HB HRY1 HRS HOW;have hd5:Below w5.heap.size w5 w5.drew:=(Below.refl _ w5).drew
    have hS0:(fun w'=>w'.heap[gs]? = some (.cells (sr m k s t cm f) 98)/\w'.heap[gy]? = some (.cells ty.cells.toArray 81)/\w'.heap[h7]? = some (.cells (SR st) 134)/\w'.heap[g5]? = some (.cells #[.int .i64 a0,.int .i64 a1] 178)/\Below w.heap.size w w'/\Below w5.heap.size w5 w') w5.drew:=⟨rK HG.out HB5.out.drew,HY5.out,HS5.out,HP5.out,HB5.out.drew,hd5⟩
    refine wp_region_held_drew (S:=fun w'=>w'.heap[gs]? = some (.cells (sr m k s t cm f) 98)/\w'.heap[gy]? = some (.cells ty.cells.toArray 81)/\w'.heap[h7]? = some (.cells (SR st) 134)/\w'.heap[g5]? = some (.cells #[.int .i64 a0,.int .i64 a1] 178)/\Below w.heap.size w w'/\Below w5.heap.size w5 w') (by kernel_rfl) hS0 (fun _=>?_);refine td 0 ?_;(try simp only [Act.put,P1,pu,P3]);refine td 1 ?_
    (try simp only [Act.put,P1,pu,P3]);refine td 2 ?_;(try simp only [Act.put,P1,pu,P3]);refine td 3 ?_;(try simp only [Act.put,P1,pu,P3]);refine Tv 4 (v:=.agg (([.slice m.pA m.places.length m.pc,.slice m.aA m.arcs.length m.ac]).toArray)) ?_ ?_
    ·(intro w hSw;exact yl_cells 25 _ rfl gs (0) rfl ([.slice m.pA m.places.length m.pc,.slice m.aA m.arcs.length m.ac]) _ Tryz.underlying25 rfl (by kernel_rfl) (fun j v h=>by rw [Nat.zero_add];exact CX hSw.1 j v (net_cells h)))
    (try simp only [Act.put,P1,pu,P3]);refine td 5 ?_;(try simp only [Act.put,P1,pu,P3]);refine tq 6 (fun w hSw=>CX hSw.2.1 6 (.int .i64 ty.t.prof) rfl) ?_;(try simp only [Act.put,P1,pu,P3]);refine td 7 ?_;(try simp only [Act.put,P1,pu,P3]);refine td 8 ?_;(try simp only [Act.put,P1,pu,P3]);refine tq 9 (fun w hSw=>CX hSw.2.2.1 0 (.int .i64 st.place) rfl) ?_
    (try simp only [Act.put,P1,pu,P3]);refine td 10 ?_;(try simp only [Act.put,P1,pu,P3]);refine tq 11 (fun w hSw=>CX hSw.2.2.2.1 0 (.int .i64 a0) rfl) ?_;(try simp only [Act.put,P1,pu,P3]);refine one 12 (fun K hK=>?_);go_simp;refine (HGO.out ty.t.prof frm st.place a0 w5.drew HB5.out.drew (by omega)).mono ?_;rintro e w6 ⟨rfl,hb6⟩
    have HS6:=hid (show w6.heap[gs]? = some (.cells (sr m k s t cm f) 98)/\w6.heap[gy]? = some (.cells ty.cells.toArray 81)/\w6.heap[h7]? = some (.cells (SR st) 134)/\w6.heap[g5]? = some (.cells #[.int .i64 a0,.int .i64 a1] 178)/\Below w.heap.size w w6/\Below w5.heap.size w5 w6 from ⟨rK (w:=w5.drew) (rK HG.out HB5.out.drew) hb6,rK (w:=w5.drew) HY5.out hb6,rK (w:=w5.drew) HS5.out hb6,rK (w:=w5.drew) HP5.out hb6,bL HB5.out.drew hb6,bL hd5 hb6⟩)
    refine hK.out _ _ (HS6.out) (fun _=>?_);clear hK K;(try simp only [Act.put,P1,pu,P3]);refine td 13 ?_;(try simp only [Act.put,P1,pu,P3]);refine td 14 ?_;(try simp only [Act.put,P1,pu,P3]);refine td 15 ?_;(try simp only [Act.put,P1,pu,P3]);refine td 16 ?_;(try simp only [Act.put,P1,pu,P3]);refine td 17 ?_;(try simp only [Act.put,P1,pu,P3]);refine td 18 ?_
    (try simp only [Act.put,P1,pu,P3]);refine td 19 ?_;(try simp only [Act.put,P1,pu,P3]);refine wpAnyH_done (by kernel_rfl) ?_ _;have HO6:=hid (OR.below HO5.out HS6.out.2.2.2.2.2);have HB6:=hid HS6.out.2.2.2.2.1;have HY6:=hid HS6.out.2.1;have HST6:=hid HS6.out.2.2.1;have z0:=CX HS6.out.2.2.2.1 0 (.int .i64 a0) rfl;have z1:=CX HS6.out.2.2.2.1 1 (.int .i64 a1) rfl
    have zd:=CX HY6.out 9 (.int .i64 ty.t.drive) rfl;have htd:=HTD.out;have HG5L:=hid (lh HS6.out.2.2.2.1);clear HO5 HB5 HY5 HS5 HP5 HS6 hb6 hS0 hd5
    have HSTEP:=hid (show sS m.v ty.t frm st O (a0,a1)=if (gP m.v ty.t.prof frm st.place a0).2.2≠0 then O else if ty.t.drive<a1+(gP m.v ty.t.prof frm st.place a0).1 - a0 then O else if dE st (gP m.v ty.t.prof frm st.place a0).1≠0 then O else rL ty.t O (DV st (gP m.v ty.t.prof frm st.place a0).1) (a1+(gP m.v ty.t.prof frm st.place a0).1 - a0) from rfl)
    obtain ⟨G,hG⟩:∃ G,G=gP m.v ty.t.prof frm st.place a0:=⟨_,rfl⟩
    rw [<- hG] at HSTEP hgb;rw [<- hG];clear hG;obtain ⟨gv,gm,ge⟩:=G;simp only at HSTEP hgb;simp only;by_cases he:ge=0
    ·subst he
     by_cases hdr:ty.t.drive<a1+gv - a0
     ·have HN:=hid (HSTEP.out.trans ((if_neg (by decide)).trans (if_pos hdr)))
      clear HSTEP HRY HDP;go_wp2_with fail;go_roundw
      case rel=>exact ⟨i+1,A1,c1,by omega,by go_num,by rw [HFT.out,HN.out],by rw [HFT.out,HN.out];exact HO6.out,HY6.out,HST6.out,HB6.out⟩
      case measure=>simp [intOf];omega
     ·have HST2:=hid (HSTEP.out.trans ((if_neg (by decide)).trans (if_neg hdr)))
      clear HSTEP;go_wp2_with (refine lr HST6.out Tryz.underlying134 ?_)
      refine (HDP.out gv w6 (by omega)).mono ?_;rintro e w7 ⟨rfl,hb7⟩;have HO7:=hid (OR.below HO6.out hb7);have HY7:=hid (rK HY6.out hb7);have HST7:=hid (rK HST6.out hb7);have HB7:=hid (HB6.out.trans (hb7.mono HB6.out.size));have z0:=(hb7.cell (p:=⟨g5,0,none⟩) HG5L.out).trans z0;have z1:=(hb7.cell (p:=⟨g5,1,none⟩) HG5L.out).trans z1;clear HO6 HY6 HST6 HB6 hb7
      have hdvb:0<=DV st gv/\DV st gv<=8192:=by
       have:=HSO.out;unfold DV;split <;> omega
      by_cases hde:dE st gv=0
      ·have HN:=hid (HST2.out.trans (if_neg (by rw [hde];decide)))
       rw [hde];clear hde HST2;generalize DV st gv=dv at *;go_wp2_with fail;refine (HRY.out O dv (a1+gv - a0) A1 c1 w7 HB7.out HO7.out (by omega) (by omega)).mono ?_;rintro e w8 ⟨A8,c8,rfl,hown8,hb8,hk8⟩;have HO8:=hid hown8;have HB8:=hid (HB7.out.trans hb8);have HY8:=hid (hk8.row _ _ _ _ HY7.out (by decide));have HST8:=hid (hk8.row _ _ _ _ HST7.out (by decide))
       clear hown8 hb8 hk8;go_wp2_with fail;go_roundw
       case rel=>exact ⟨i+1,A8,c8,by omega,by go_num,by rw [HFT.out,HN.out],by rw [HFT.out,HN.out];exact HO8.out,HY8.out,HST8.out,HB8.out⟩
       case measure=>simp [intOf];omega
      ·have HN:=hid (HST2.out.trans (if_pos hde))
       have hdb:=ib hde;have hdb2:(dE st gv != 0)=true:=by simpa using hde
       clear hde HST2 HRY;generalize DV st gv=dv at *;generalize dE st gv=de at *;go_wp2_with fail;go_roundw
       case rel=>exact ⟨i+1,A1,c1,by omega,by go_num,by rw [HFT.out,HN.out],by rw [HFT.out,HN.out];exact HO7.out,HY7.out,HST7.out,HB7.out⟩
       case measure=>simp [intOf];omega
    ·have HN:=hid (HSTEP.out.trans (if_pos he))
     have heb:=ib he;have heb2:(ge != 0)=true:=by simpa using he
     clear he HSTEP HRY HDP;go_wp2_with fail;go_roundw
     case rel=>exact ⟨i+1,A1,c1,by omega,by go_num,by rw [HFT.out,HN.out],by rw [HFT.out,HN.out];exact HO6.out,HY6.out,HST6.out,HB6.out⟩
     case measure=>simp [intOf];omega
   ·have hlt1:¬ (i:Int)<(L.length:Int):=by omega
    have HE:=hid (show (L.take i).foldl (sS m.v ty.t frm st) []=vL m.v ty.t frm st L by unfold vL;rw [List.take_of_length_le (by omega)]);go_wp2_with fail;go_ret;exact ⟨A1,c1,Rs (by rw [HE.out]),by rw [<- HE.out];exact HOW.out,HB.out,KT.below HB.out⟩
end Go.Proofs.YtjcekdiocliddaaGreatDoor

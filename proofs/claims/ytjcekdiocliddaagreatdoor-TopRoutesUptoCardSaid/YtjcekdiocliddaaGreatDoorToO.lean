/- cmp.Or, sequence.compare, Less, best.Better, best.first. (Printed by wip/tk/mkToO.py.) -/
import Derived.Test.YtjcekdiocliddaaGreatDoorG1
import Derived.Test.YtjcekdiocliddaaGreatDoorG88
import Derived.Test.YtjcekdiocliddaaGreatDoorToI
import Derived.Test.YtjcekdiocliddaaGreatDoorG87
import Derived.Test.YtjcekdiocliddaaGreatDoorG85
namespace Go.Proofs.YtjcekdiocliddaaGreatDoor
open Lib (hid)
open Go.RowKit Num Txt Pf Tk
set_option maxHeartbeats 32000000
set_option maxRecDepth 100000
set_option linter.unusedVariables false
attribute [local go_sem] BS Bg Bt Bm Be Ba
def IntE (w:World) (e:Ending) (w':World):Prop:=∃ n:Int,e=.returned (.int .i64 n)/\Below w.heap.size w w'
theorem cmp_or2 (a b:Int) (bl off c:Nat) (w:World) (h0:w.cell? ⟨bl,off,none⟩=some (.int .i64 a)) (h1:w.cell? ⟨bl,off+1,none⟩=some (.int .i64 b)) :
  Calls Tryz.prog 188 #[.slice (some ⟨bl,off,none⟩) 2 c] w fun e w'=>e=.returned (.int .i64 (or2 a b))/\w'=w:=by
 have hc:∀ k:Nat,k<2->w.cell? ⟨bl,off+k,none⟩=some (.int .i64 (if k=0 then a else b)):=by
  intro k hk;rcases Nat.lt_or_ge k 1 with h | h
  ·obtain rfl:k=0:=by omega
   simpa using h0
  ·obtain rfl:k=1:=by omega
   simpa using h1
 clear h0 h1;go_enter Tryz.func188,Tryz.ntmps188;go_wp2
 go_loop [5,8] (fun _ i=>∃ k:Nat,k<=2/\i=.int .i64 k/\∀ j,j<k->(if j=0 then a else b)=0) (fun _ i=>2 - (intOf i).toNat)
 case atStart=>exact ⟨0,by omega,rfl,fun j hj=>absurd hj (by omega)⟩
 case round =>
  obtain ⟨k,hk,rfl,hz⟩:=hrel;have HZ:=hid hz;clear hz;by_cases hlt:k<2
  ·have hcell:=hc k hlt
   generalize hx:(if k=0 then a else b)=x at hcell;have HX:=hid hx;clear hx;by_cases hx0:x=0
   ·have ht:(x != 0)=false:=by rw [hx0];rfl
    have H0:=hid hx0;clear hx0 hc;go_wp2
    go_round
    case rel =>
     refine ⟨k+1,by omega,by go_num,fun j hj=>?_⟩;rcases Nat.lt_or_ge j k with h | h
     ·exact HZ.out j h
     ·obtain rfl:j=k:=by omega
      rw [HX.out,H0.out]
    case measure=>simp [intOf];omega
   ·have ht:(x != 0)=true:=by simpa using hx0
    have H0:=hid hx0;clear hx0 hc;go_wp2
    go_ret;have h3:=HX.out;by_cases hk0:k=0
    ·rw [if_pos hk0] at h3;exact ⟨ri (by subst h3;rw [or2,if_neg H0.out]),rfl⟩
    ·have:=HZ.out 0 (by omega)
     rw [if_pos rfl] at this;rw [if_neg hk0] at h3;exact ⟨ri (by rw [or2,if_pos this,h3]),rfl⟩
  ·clear hc
   go_wp2
   go_ret;have h3:=HZ.out 0 (by omega);have h4:=HZ.out 1 (by omega);simp at h3 h4
   exact ⟨ri (by simp [or2,h3,h4]),rfl⟩
theorem seqcl_any (v:Int × Bool) (w:World):Calls Tryz.prog 187 #[.agg #[.int .i64 v.1,.bool v.2]] w fun e w'=>e=.returned (.int .i64 (if v.2 then 1 else 0))/\Below w.heap.size w w':=by
 obtain ⟨n4,p4⟩:=Na w (.cells #[.int .i64 v.1,.bool v.2] 92);have HN4:=hid n4;obtain ⟨o,d⟩:=v;cases d
 ·have q1:=CX p4 1 (.bool false) rfl
  go_enter Tryz.func187,Tryz.ntmps187;(try simp only [Bm]);go_upto_region 1 with fail;generalize w.alloc (.cells #[.int .i64 o,.bool false] 92)=wa at *;go_wp2_with fail;go_ret;exact ⟨rfl,HN4.out⟩
 ·have q1:=CX p4 1 (.bool true) rfl
  go_enter Tryz.func187,Tryz.ntmps187;(try simp only [Bm]);go_upto_region 1 with fail;generalize w.alloc (.cells #[.int .i64 o,.bool true] 92)=wa at *;go_wp2_with fail;go_ret;exact ⟨rfl,HN4.out⟩
theorem scompare_any (a b:Int × Bool) (w:World):Calls Tryz.prog 165 #[.agg #[.int .i64 a.1,.bool a.2],.agg #[.int .i64 b.1,.bool b.2]] w (IntE w):=by
 obtain ⟨k1,k2,kb⟩:=aL w (.cells #[.int .i64 a.1,.bool a.2] 92) (.cells #[.int .i64 b.1,.bool b.2] 92);have HB:=hid kb;have HK1:=hid k1;have HK2:=hid k2;clear k1 k2 kb;go_enter Tryz.func165,Tryz.ntmps165;(try simp only [Bm]);go_upto_region 2 with fail;generalize (w.alloc (.cells #[.int .i64 a.1,.bool a.2] 92)).alloc (.cells #[.int .i64 b.1,.bool b.2] 92)=wa at *
 obtain ⟨h2,hh2⟩:∃ h2,h2=w.heap.size:=⟨_,rfl⟩
 rw [<- hh2] at HK1 HK2;rw [<- hh2];clear hh2;have hd:Below wa.heap.size wa wa.drew:=(Below.refl _ wa).drew;have hS0:(fun w'=>Below wa.heap.size wa w') wa.drew:=hd;refine wp_region_held_drew (S:=fun w'=>Below wa.heap.size wa w') (by kernel_rfl) hS0 (fun _=>?_);refine tk 0 ?_;refine tq 1 (fun w hSw=>CX (rK HK1.out hSw) 0 (.int .i64 a.1) rfl) ?_;refine tk 2 ?_
 refine tq 3 (fun w hSw=>CX (rK HK2.out hSw) 0 (.int .i64 b.1) rfl) ?_;(try simp only [Act.put,P1,pu,P3]);refine tk 5 ?_;(try simp only [Act.put,P1,pu,P3]);refine tkr 6 Tryz.underlying92 (fun w hSw=>rK HK1.out hSw) ?_;refine tk 8 ?_;(try simp only [Act.put,P1,pu,P3]);refine Tv 9 (v:=.agg #[.int .i64 b.1,.bool b.2]) ?_ ?_
 ·(intro w hSw;exact yl_row 92 _ rfl (h2+1) rfl 92 _ _ Tryz.underlying92 rfl (by kernel_rfl) (rK HK2.out hSw))
 (try simp only [Act.put,P1,pu,P3]);refine one 4 (fun K hK=>?_);go_simp;refine (Ci a.1 b.1 wa.drew).mono ?_;rintro e w3 ⟨rfl,rfl⟩;refine hK.out _ _ hd (fun _=>?_);clear hK K;(try simp only [Act.put,P1,pu,P3]);generalize cI a.1 b.1=c1 at *;refine one 7 (fun K hK=>?_);go_simp;refine (seqcl_any a wa.drew).mono ?_;rintro e w4 ⟨rfl,hb4⟩
 have hS4:Below wa.heap.size wa w4:=bL hd hb4;refine hK.out _ _ hS4 (fun _=>?_);clear hK K;(try simp only [Act.put,P1,pu,P3]);generalize (if a.2 then (1:Int) else 0)=i1 at *;refine one 10 (fun K hK=>?_);go_simp;refine (seqcl_any b w4).mono ?_;rintro e w5 ⟨rfl,hb5⟩;have hS5:Below wa.heap.size wa w5:=bL hS4 hb5;refine hK.out _ _ hS5 (fun _=>?_);clear hK K
 (try simp only [Act.put,P1,pu,P3]);generalize (if b.2 then (1:Int) else 0)=i2 at *;refine one 11 (fun K hK=>?_);go_simp;refine (Ci i1 i2 w5).mono ?_;rintro e w6 ⟨rfl,rfl⟩;refine hK.out _ _ hS5 (fun _=>?_);clear hK K;(try simp only [Act.put,P1,pu,P3]);generalize cI i1 i2=c2 at *;obtain ⟨n7,p7⟩:=Na w6 (.cells #[.int .i64 c1,.int .i64 c2] 3);have hS7:=bL hS5 n7
 refine one 12 (fun K hK=>?_);go_simp;refine hK.out _ _ hS7 (fun _=>?_);clear hK K;(try simp only [Act.put,P1,pu,P3]);have y0:=CX p7 0 (.int .i64 c1) rfl;have y1:=CX p7 1 (.int .i64 c2) rfl;refine one 13 (fun K hK=>?_);go_simp;refine (cmp_or2 c1 c2 w6.heap.size 0 2 _ y0 y1).mono ?_;rintro e w8 ⟨rfl,rfl⟩;refine hK.out _ _ hS7 (fun _=>?_);clear hK K;(try simp only [Act.put,P1,pu,P3])
 generalize or2 c1 c2=c3 at *;refine tk 14 ?_;(try simp only [Act.put,P1,pu,P3]);refine wpAnyH_done (by kernel_rfl) ?_ _;go_wp2_with fail;go_ret;exact ⟨c3,rfl,bL HB.out hS7⟩
theorem scmpf_any (a b:List (Int × Bool)) (A C:Option Addr) (ca cb:Nat) (w:World) (ha:Cs w A (a.flatMap VC)) (hb:Cs w C (b.flatMap VC)) (hna:a.length<=ca/\ca<=maxLen) (hnb:b.length<=cb/\cb<=maxLen) :
  Calls Tryz.prog 164 #[.slice A a.length ca,.slice C b.length cb,.func (Fn.func 165) #[] #[]] w (IntE w):=by
 have HA:=hid ha;have HC:=hid hb;unfold maxLen at hna hnb;clear ha hb;go_enter Tryz.func164,Tryz.ntmps164;(try simp only [Bm]);go_wp2_with fail;go_loopw [6,7,10,13] (fun _ _ _ j wr=>∃ k:Nat,k<=a.length/\j=.int .i64 k/\Below w.heap.size w wr) (fun _ _ _ j _=>a.length - (intOf j).toNat)
 case atStart=>exact ⟨0,Nat.zero_le _,rfl,Below.refl _ _⟩
 case round =>
  obtain ⟨k,hk,rfl,hbel⟩:=hrel;have HB:=hid hbel;clear hbel;by_cases hlt:k<a.length
  ·have hlt1:(k:Int)<(a.length:Int):=by omega
   obtain ⟨g1,o1,hA1,hg1,hx1⟩:=eP vC (by decide) (HA.out.below HB.out) (by omega);have x0:=hx1 k hlt 0 _ rfl;have x1:=hx1 k hlt 1 _ rfl;rw [Nat.add_zero] at x0;subst hA1;clear hx1;obtain ⟨u,hu⟩:∃ u,u=a[k]:=⟨_,rfl⟩
   rw [<- hu] at x0 x1;clear hu;obtain ⟨n4,p4⟩:=Na wr (.cells #[.int .i64 u.1,.bool u.2] 92);go_upto_region 4 with fail;have HB4:=hid (bL HB.out n4);have HP4:=hid p4;generalize wr.alloc (.cells #[.int .i64 u.1,.bool u.2] 92)=w4 at *;obtain ⟨h4,hh4⟩:∃ h4,h4=wr.heap.size:=⟨_,rfl⟩
   rw [<- hh4] at HP4;rw [<- hh4];clear hh4 n4 p4 x0 x1;by_cases hlb:k<b.length
   ·have hlb1:¬ (b.length:Int)<=(k:Int):=by omega
    obtain ⟨g2,o2,hA2,hg2,hx2⟩:=eP vC (by decide) (HC.out.below HB4.out) (by omega);have y0:=hx2 k hlb 0 _ rfl;have y1:=hx2 k hlb 1 _ rfl;rw [Nat.add_zero] at y0;subst hA2;clear hx2;obtain ⟨v,hv⟩:∃ v,v=b[k]:=⟨_,rfl⟩
    rw [<- hv] at y0 y1;clear hv;obtain ⟨n5,p5⟩:=Na w4 (.cells #[.int .i64 v.1,.bool v.2] 92);go_upto_region 7 with fail;have HB5:=hid (bL HB4.out n5);have HP5:=hid p5;have HP45:=hid (rK HP4.out n5);generalize w4.alloc (.cells #[.int .i64 v.1,.bool v.2] 92)=w5 at *;obtain ⟨h5,hh5⟩:∃ h5,h5=w4.heap.size:=⟨_,rfl⟩
    rw [<- hh5] at HP5;rw [<- hh5];clear hh5 n5 p5 y0 y1;go_wp2_with (first | (refine lr HP45.out Tryz.underlying92 ?_) | (refine lr HP5.out Tryz.underlying92 ?_))
    refine (scompare_any u v w5).mono ?_;rintro e w6 ⟨n,rfl,hb6⟩;have HB6:=hid (bL HB5.out hb6);clear hb6;by_cases hn:n=0
    ·have hn1:(n != 0)=false:=nN (by simpa using hn)
     clear hn;go_wp2_with fail;go_roundw
     case rel=>exact ⟨k+1,by omega,by go_num,HB6.out⟩
     case measure=>simp [intOf];omega
    ·have hn1:(n != 0)=true:=nf (by simpa using hn)
     clear hn;go_wp2_with fail;go_ret;exact ⟨n,rfl,HB6.out⟩
   ·have hlb1:(b.length:Int)<=(k:Int):=by omega
    go_wp2_with fail;go_ret;exact ⟨1,rfl,HB4.out⟩
  ·have hlt1:¬ (k:Int)<(a.length:Int):=by omega
   by_cases hab:a.length<b.length
   ·have hab1:(a.length:Int)<(b.length:Int):=by omega
    go_wp2_with fail;go_ret;exact ⟨-1,rfl,HB.out⟩
   ·have hab1:¬ (a.length:Int)<(b.length:Int):=by omega
    go_wp2_with fail;go_ret;exact ⟨0,rfl,HB.out⟩
def BoolE (w:World) (e:Ending) (w':World):Prop:=∃ b:Bool,e=.returned (.bool b)/\Below w.heap.size w w'
theorem sless_any (a b:List (Int × Bool)) (A C:Option Addr) (ca cb:Nat) (w:World) (ha:Cs w A (a.flatMap VC)) (hb:Cs w C (b.flatMap VC)) (hna:a.length<=ca/\ca<=maxLen) (hnb:b.length<=cb/\cb<=maxLen) :
  Calls Tryz.prog 131 #[.slice A a.length ca,.slice C b.length cb] w (BoolE w):=by
 have HF:=hid (scmpf_any a b A C ca cb w ha hb hna hnb);clear ha hb;go_enter Tryz.func131,Tryz.ntmps131;(try simp only [Bm]);go_wp2_with fail;refine HF.out.mono ?_;rintro e w6 ⟨n,rfl,hb6⟩;have HB6:=hid hb6;clear hb6;go_wp2_with fail;go_ret;exact ⟨decide (n<0),rfl,HB6.out⟩
structure CT (w:World) (c:CM):Prop where
 vis:Cs w c.A (c.vis.flatMap VC)
 vl:c.vis.length<=c.c/\c.c<=maxLen
theorem CT.below {w w':World} {c:CM} (h:CT w c) (hb:Below w.heap.size w w'):CT w' c:=⟨h.vis.below hb,h.vl⟩
def BetE (a b:CM) (w:World) (e:Ending) (w':World):Prop:=∃ r:Bool,e=.returned (.bool r)/\(r=true->a.price<=b.price)/\(r=false->b.price<=a.price)/\Below w.heap.size w w'
theorem better_any (a b:CM) (w:World) (ha:CT w a) (hb:CT w b):Calls Tryz.prog 81 #[.agg (CR a),.agg (CR b)] w (BetE a b w):=by
 obtain ⟨k1,k2,kb⟩:=aL w (.cells (CR a) 55) (.cells (CR b) 55);have HB:=hid kb;have HA:=hid (ha.below kb);have HC:=hid (hb.below kb);have q0:=CX k1 2 (.int .i64 a.price) rfl;have q1:=CX k2 2 (.int .i64 b.price) rfl;have q2:=CX k1 6 (.slice a.A a.vis.length a.c) rfl;have q3:=CX k2 6 (.slice b.A b.vis.length b.c) rfl;clear k1 k2 kb ha hb
 go_enter Tryz.func81,Tryz.ntmps81;(try simp only [Bm]);go_upto_region 1 with fail;generalize (w.alloc (.cells (CR a) 55)).alloc (.cells (CR b) 55)=wa at *;have HL:=hid (sless_any a.vis b.vis a.A b.A a.c b.c wa HA.out.vis HC.out.vis HA.out.vl HC.out.vl);obtain ⟨pa,hpa⟩:∃ pa,pa=a.price:=⟨_,rfl⟩
 obtain ⟨pb,hpb⟩:∃ pb,pb=b.price:=⟨_,rfl⟩
 rw [<- hpa] at q0;rw [<- hpb] at q1;have HPA:=hid hpa;have HPB:=hid hpb;clear hpa hpb;by_cases hne:pa=pb
 ·have e1:(pa != pb)=false:=nN (by simpa using hne)
  have HNE:=hid hne;clear hne;go_wp2_with fail;refine HL.out.mono ?_;rintro e w6 ⟨n,rfl,hb6⟩;have HB6:=hid (bL HB.out hb6);clear hb6;go_wp2_with fail;go_ret;exact ⟨n,rfl,fun _=>by rw [<- HPA.out,<- HPB.out,HNE.out];exact Int.le_refl _,fun _=>by rw [<- HPA.out,<- HPB.out,HNE.out];exact Int.le_refl _,HB6.out⟩
 ·have e1:(pa != pb)=true:=nf (by simpa using hne)
  clear hne;go_wp2_with fail;go_ret;exact ⟨decide (pa<pb),rfl,fun h=>by have h:=of_decide_eq_true h;rw [<- HPA.out,<- HPB.out];omega,fun h=>by have h:=of_decide_eq_false h;rw [<- HPA.out,<- HPB.out];omega,HB.out⟩
abbrev CZ:Array Value:=#[.int .i64 0,.int .i64 0,.int .i64 0,.int .i64 0,.int .i64 0,.slice none 0 0,.slice none 0 0]
def FirE (a:CM) (f:Bool) (b:CM) (w:World) (e:Ending) (w':World):Prop:=∃ c:CM,e=.returned (.agg (CR c))/\((c=b/\(f=true->b.price<=a.price))∨(c=a/\f=true/\a.price<=b.price))/\Below w.heap.size w w'
theorem first_any (a b:CM) (f:Bool) (w:World) (ha:CT w a) (hb:CT w b):Calls Tryz.prog 80 #[.agg (CR a),.bool f,.agg (CR b),.func (Fn.func 81) #[] #[]] w (FirE a f b w):=by
 obtain ⟨k1,k2,k3,kb⟩:=Av w (.cells (CR a) 55) (.cells (CR b) 55) (.cells CZ 55);have HB:=hid kb;have HA:=hid (ha.below kb);have HC:=hid (hb.below kb);have HK1:=hid k1;have HK2:=hid k2;have HK3:=hid k3;have qa0:=CX k1 0 (.int .i64 a.kind) rfl;have qa1:=CX k1 1 (.int .i64 a.set) rfl;have qa2:=CX k1 2 (.int .i64 a.price) rfl
 have qa3:=CX k1 3 (.int .i64 a.rk) rfl;have qa4:=CX k1 4 (.int .i64 0) rfl;have qa5:=CX k1 5 (.slice none 0 0) rfl;have qa6:=CX k1 6 (.slice a.A a.vis.length a.c) rfl;have qb0:=CX k2 0 (.int .i64 b.kind) rfl;have qb1:=CX k2 1 (.int .i64 b.set) rfl;have qb2:=CX k2 2 (.int .i64 b.price) rfl;have qb3:=CX k2 3 (.int .i64 b.rk) rfl
 have qb4:=CX k2 4 (.int .i64 0) rfl;have qb5:=CX k2 5 (.slice none 0 0) rfl;have qb6:=CX k2 6 (.slice b.A b.vis.length b.c) rfl;clear k1 k2 k3 kb ha hb;go_enter Tryz.func80,Tryz.ntmps80;(try simp only [Bm]);go_upto_region 1 with fail;generalize ((w.alloc (.cells (CR a) 55)).alloc (.cells (CR b) 55)).alloc (.cells CZ 55)=wa at *;obtain ⟨h4,hh4⟩:∃ h4,h4=w.heap.size:=⟨_,rfl⟩
 rw [<- hh4] at HK1 HK2 HK3 qa0 qa1 qa2 qa3 qa4 qa5 qa6 qb0 qb1 qb2 qb3 qb4 qb5 qb6;rw [<- hh4];have HH4:=hid hh4;clear hh4;have HBE:=hid (better_any b a wa HC.out HA.out);cases f
 ·clear HBE qa0 qa1 qa2 qa3 qa4 qa5 qa6 qb0 qb1 qb2 qb3 qb4 qb5 qb6
  go_wp2_with (first | (refine lr HK1.out Tryz.underlying55 ?_) | (refine lr HK2.out Tryz.underlying55 ?_) | (refine sw (CR b) HK3.out ?_))
  have hq5:(wa.setRow (h4+1+1) (CR b)).heap[h4+1+1]? = some (.cells (CR b) 55):=setRow_heap _ _ _ _ _ _ HK3.out;refine bodyPost_ret (Rr rfl (run_loadVar_row (P:=Tryz.prog) _ (h4+1+1) 55 55 _ _ _ hq5 Tryz.underlying55 rfl (by kernel_rfl)) rfl) rfl ?_;exact ⟨b,rfl,.inl ⟨rfl,fun h=>by cases h⟩,below_setRow HB.out (by have:=HH4.out;omega) _⟩
 ·go_wp2_with fail
  refine HBE.out.mono ?_;rintro e w6 ⟨r,rfl,hr1,hr2,hb6⟩;have HB6:=hid (bL HB.out hb6);have HK16:=hid (rK HK1.out hb6);have HK26:=hid (rK HK2.out hb6);have HK36:=hid (rK HK3.out hb6);have HR1:=hid hr1;have HR2:=hid hr2;clear hb6 hr1 hr2 HK1 HK2 HK3 HB HBE qa0 qa1 qa2 qa3 qa4 qa5 qa6 qb0 qb1 qb2 qb3 qb4 qb5 qb6;cases r
  ·skip
   go_wp2_with (first | (refine lr HK16.out Tryz.underlying55 ?_) | (refine lr HK26.out Tryz.underlying55 ?_) | (refine sw (CR a) HK36.out ?_))
   have hq5:(w6.setRow (h4+1+1) (CR a)).heap[h4+1+1]? = some (.cells (CR a) 55):=setRow_heap _ _ _ _ _ _ HK36.out;refine bodyPost_ret (Rr rfl (run_loadVar_row (P:=Tryz.prog) _ (h4+1+1) 55 55 _ _ _ hq5 Tryz.underlying55 rfl (by kernel_rfl)) rfl) rfl ?_;exact ⟨a,rfl,.inr ⟨rfl,rfl,HR2.out (by simp)⟩,below_setRow HB6.out (by have:=HH4.out;omega) _⟩
  ·skip
   go_wp2_with (first | (refine lr HK16.out Tryz.underlying55 ?_) | (refine lr HK26.out Tryz.underlying55 ?_) | (refine sw (CR b) HK36.out ?_))
   have hq5:(w6.setRow (h4+1+1) (CR b)).heap[h4+1+1]? = some (.cells (CR b) 55):=setRow_heap _ _ _ _ _ _ HK36.out;refine bodyPost_ret (Rr rfl (run_loadVar_row (P:=Tryz.prog) _ (h4+1+1) 55 55 _ _ _ hq5 Tryz.underlying55 rfl (by kernel_rfl)) rfl) rfl ?_;exact ⟨b,rfl,.inl ⟨rfl,fun _=>HR1.out (by simp)⟩,below_setRow HB6.out (by have:=HH4.out;omega) _⟩
end Go.Proofs.YtjcekdiocliddaaGreatDoor

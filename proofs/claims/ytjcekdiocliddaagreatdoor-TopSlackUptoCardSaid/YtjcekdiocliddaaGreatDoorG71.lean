/- travel: within, Check and right of a good function, arrive, Arrive. -/
import Derived.Test.YtjcekdiocliddaaGreatDoorG67
import Derived.Test.YtjcekdiocliddaaGreatDoorG10
import Derived.Test.YtjcekdiocliddaaGreatDoorG69
import Derived.Test.YtjcekdiocliddaaGreatDoorG70
import Derived.BigQuiet
import Derived.StillTailTactics
import Derived.Deep.RegionHeld3
namespace Go.Proofs.YtjcekdiocliddaaGreatDoor
open Go.RowKit Num Txt Pf Tk
set_option linter.unusedVariables false
attribute [local go_sem] B_size B_get B_toList B_mk B_extract B_append
set_option maxHeartbeats 4000000 in
theorem twithin_any (n lo hi:Int) (w:World):Calls Tryz.prog 53 #[.int .i64 n,.int .i64 lo,.int .i64 hi] w fun e w'=>e=.returned (.bool (inR n lo hi))∧w'=w:=by
 by_cases h1:lo≤n
 ·by_cases h2:n≤hi
  ·have HR:=Lib.hid (inR_tt h1 h2)
   go_enter Tryz.func53,Tryz.ntmps53
   go_wp2_with fail
   go_ret
   exact ⟨ret_bool HR.out.symm,rfl⟩
  ·have HR:=Lib.hid (inR_f2 (lo:=lo) h2)
   go_enter Tryz.func53,Tryz.ntmps53
   go_wp2_with fail
   go_ret
   exact ⟨ret_bool HR.out.symm,rfl⟩
 ·have HR:=Lib.hid (inR_f1 (hi:=hi) h1)
  go_enter Tryz.func53,Tryz.ntmps53
  go_wp2_with fail
  go_ret
  exact ⟨ret_bool HR.out.symm,rfl⟩
theorem mem_fits2 {ps:List (Int × Int)} (h:PtsOK ps) {i:Nat} (hi:i<ps.length):(0≤ps[i].1∧ps[i].1≤4096)∧ps[i].1≤ps[i].2∧ps[i].2≤ps[i].1+4096:=by
 have:=h.each _ (List.getElem_mem hi)
 omega
set_option maxHeartbeats 8000000 in
set_option maxRecDepth 100000 in
theorem tcheck_ok (ps:List (Int × Int)) (A:Option Addr) (c:Nat) (w:World) (hc:Cells w A (ps.flatMap pntC)) (hn:ps.length≤c∧c≤maxLen) (hok:PtsOK ps) (ht:Tab w) :
  Calls Tryz.prog 110 #[.slice A ps.length c] w fun e w'=>e=.returned (.slice none 0 0)∧Below w.heap.size w w':=by
 unfold maxLen at hn
 have HC:=Lib.hid hc
 have HK:=Lib.hid hok
 have HT:=Lib.hid ht
 have hp0:=hok.pos
 have hp16:=hok.len
 clear hc hok ht
 have e0:((ps.length:Int) == 0)=false:=by rw [beq_eq_false_iff_ne];omega
 have e1:¬ (16:Int)<(ps.length:Int):=by omega
 go_enter Tryz.func110,Tryz.ntmps110
 (try simp only [B_mk])
 go_wp2_with fail
 go_loopw [3,4,6,21] (fun o _ _ j wr=>∃ k:Nat,k≤ps.length∧j=.int .i64 k∧o=.slice none 0 0∧Below w.heap.size w wr) (fun _ _ _ j _=>ps.length - (intOf j).toNat)
 case atStart=>exact ⟨0,Nat.zero_le _,rfl,rfl,Below.refl _ _⟩
 case round =>
  obtain ⟨k,hk,rfl,rfl,hbel⟩:=hrel
  have HBL:=Lib.hid hbel
  clear hbel
  by_cases hlt:k<ps.length
  ·have hlt1:(k:Int)<(ps.length:Int):=by omega
   obtain ⟨g1,o1,hA1,hg1,hx1⟩:=elemsP pntC_len (by decide) HC.out (by omega)
   subst hA1
   have hx3:=hx1 k hlt
   have c0:=(HBL.out.cell (p:=⟨g1,o1+k*2,none⟩) hg1).trans (hx3 0 (.int .i64 ps[k].1) rfl)
   have c1':=(HBL.out.cell (p:=⟨g1,o1+k*2+1,none⟩) hg1).trans (hx3 1 (.int .i64 ps[k].2) rfl)
   obtain ⟨n4,p4⟩:=new_at wr (.cells #[.int .i64 ps[k].1,.int .i64 ps[k].2] 74)
   have hfit:=mem_fits2 HK.out hlt
   have HB4:=Lib.hid (below_lift HBL.out n4)
   have HX:=Lib.hid (fun (wn:World) (hb:Below w.heap.size w wn) (i:Nat) (hi:i<ps.length)=>(⟨(hb.cell (p:=⟨g1,o1+i*2,none⟩) hg1).trans (hx1 i hi 0 (.int .i64 ps[i].1) rfl),(hb.cell (p:=⟨g1,o1+i*2+1,none⟩) hg1).trans (hx1 i hi 1 (.int .i64 ps[i].2) rfl)⟩:wn.cell? ⟨g1,o1+i*2,none⟩=some (.int .i64 ps[i].1)∧wn.cell? ⟨g1,o1+i*2+1,none⟩=some (.int .i64 ps[i].2)))
   have HPK:=Lib.hid (show ∃ p,p=ps[k] from ⟨_,rfl⟩)
   clear hx1 hx3 n4
   go_upto_region 7 with fail
   clear c0 c1'
   obtain ⟨p,hp⟩:=HPK.out
   have hpp:ps[k]=p:=hp.symm
   rw [hpp] at p4 hfit HB4
   simp only [hpp]
   generalize wr.alloc (.cells #[.int .i64 p.1,.int .i64 p.2] 74)=w4 at *
   have HPP:=Lib.hid hpp
   clear hpp hp HPK
   obtain ⟨⟨f1,f2⟩,f3,f4⟩:=hfit
   have HDC:=Lib.hid (itoaI_any (k:Int) w4 (by unfold fits;omega) (HT.out.below (HB4.out.mono (Nat.le_refl _))))
   go_wp2_with fail
   refine HDC.out.mono ?_
   rintro e w5 ⟨rfl,hb5⟩
   have HB5:=Lib.hid (below_lift HB4.out hb5)
   obtain ⟨c0,c1'⟩:=cells2 (row_keep p4 hb5)
   have HC0:=Lib.hid c0
   have HC1:=Lib.hid c1'
   have d1:¬ p.2<p.1:=by omega
   have d2:¬ p.1+4096<p.2:=by omega
   clear hb5
   go_wp2_with fail
   refine (twithin_any p.1 0 4096 w5).mono ?_
   rintro e w6 ⟨rfl,hw6⟩
   obtain rfl:=hw6.symm
   rw [inR_tt f1 f2]
   go_upto_region 10 with fail
   by_cases h0:0<k
   ·have h0i:(0:Int)<(k:Int):=by omega
    have hkm:(k:Int) - 1=((k - 1:Nat):Int):=by omega
    have hn1:=HK.out.next (k - 1) (by omega)
    have hkk:k - 1+1=k:=by omega
    simp only [hkk] at hn1
    rw [HPP.out] at hn1
    obtain ⟨d0,d1⟩:=HX.out w5 HB5.out (k - 1) (by omega)
    have hi1:k - 1<ps.length:=by omega
    obtain ⟨q,hq⟩:∃ q,ps[k - 1]'(by omega)=q:=⟨_,rfl⟩
    rw [hq] at d0 d1 hn1
    have b1:decide (p.1≤q.1)=false:=decide_eq_false (by omega)
    have b2:decide (p.2<q.2)=false:=decide_eq_false (by omega)
    clear hq hn1 hkk
    go_quiet (fail)
    have hb7:=below_drewN HB5.out nq
    go_wp2_with fail
    go_roundw
    case rel=>exact ⟨k+1,by omega,by go_num,rfl,hb7⟩
    case measure=>simp [intOf];omega
   ·have h0i:¬ (0:Int)<(k:Int):=by omega
    have hd0:decide ((0:Int)<(k:Int))=false:=decide_eq_false h0i
    go_quiet (fail)
    have hb7:=below_drewN HB5.out nq
    go_wp2_with fail
    go_roundw
    case rel=>exact ⟨k+1,by omega,by go_num,rfl,hb7⟩
    case measure=>simp [intOf];omega
  ·have hlt1:¬ (k:Int)<(ps.length:Int):=by omega
   go_wp2_with fail
   go_ret
   exact ⟨rfl,HBL.out⟩
set_option maxHeartbeats 4000000 in
theorem tright_ok (ps:List (Int × Int)) (A:Option Addr) (c:Nat) (w:World) (hc:Cells w A (ps.flatMap pntC)) (hn:ps.length≤c∧c≤maxLen) (hok:PtsOK ps) (ht:Tab w) :
  Calls Tryz.prog 54 #[.slice A ps.length c] w fun e w'=>e=.returned (.bool true)∧Below w.heap.size w w':=by
 have H:=Lib.hid (tcheck_ok ps A c w hc hn hok ht)
 clear hc hok ht hn
 go_enter Tryz.func54,Tryz.ntmps54
 go_wp2_with fail
 refine H.out.mono ?_
 rintro e w1 ⟨rfl,hb⟩
 go_wp2_with fail
 go_ret
 exact ⟨rfl,hb⟩
set_option maxHeartbeats 4000000 in
theorem tcmp_any (p:Int × Int) (t:Int) (w:World) (hp:0≤p.1∧p.1≤4096) (ht:0≤t∧t≤1073741824) :
  Calls Tryz.prog 112 #[.agg #[.int .i64 p.1,.int .i64 p.2],.int .i64 t] w fun e w'=>e=.returned (.int .i64 (p.1 - t))∧Below w.heap.size w w':=by
 obtain ⟨n4,p4⟩:=new_at w (.cells #[.int .i64 p.1,.int .i64 p.2] 74)
 have HN:=Lib.hid n4
 clear n4
 go_enter Tryz.func112,Tryz.ntmps112
 go_upto_region 1 with fail
 generalize w.alloc (.cells #[.int .i64 p.1,.int .i64 p.2] 74)=w4 at *
 obtain ⟨c0,c1⟩:=cells2 p4
 go_wp2_with fail
 go_ret
 exact ⟨rfl,HN.out⟩
theorem pts_mono {l:List (Int × Int)} (h:PtsOK l) {i j:Nat} (hi:i<l.length) (hj:j<l.length) (hij:i≤j):l[i].1≤l[j].1:=by
 rcases Nat.lt_or_eq_of_le hij with h1 | h1
 ·have:=pts_lt h i j hi hj h1;omega
 ·subst h1;exact Int.le_refl _
theorem pts_prev {l:List (Int × Int)} (h:PtsOK l) {i:Nat} (h0:0<i) (hi:i<l.length):(l[i - 1]'(by omega)).1<l[i].1∧(l[i - 1]'(by omega)).2≤l[i].2:=by
 obtain ⟨j,rfl⟩:∃ j,i=j+1:=⟨i - 1,by omega⟩
 exact h.next j hi
theorem two_new (w:World) (a b:Obj):(((w.alloc a).alloc b).drew).heap[w.heap.size]? = some a∧(((w.alloc a).alloc b).drew).heap[w.heap.size+1]? = some b∧Below w.heap.size w (((w.alloc a).alloc b).drew):=by
 obtain ⟨n1,p1⟩:=new_at w a
 obtain ⟨n2,p2⟩:=new_at (w.alloc a) b
 have hs:(w.alloc a).heap.size=w.heap.size+1:=by simp
 rw [hs] at p2
 have k1:=row_keep p1 n2
 exact ⟨k1,p2,(below_lift n1 n2).drew⟩
def BsE (ps:List (Int × Int)) (t:Int) (w:World) (e:Ending) (w':World):Prop:=(∃ f:Bool,e=.returned (.tuple #[.int .i64 (ptsN ps t),.bool f])∧(f=true↔∃ h:ptsN ps t<ps.length,ps[ptsN ps t].1=t))∧Below w.heap.size w w'
theorem BsE.mk {ps:List (Int × Int)} {t:Int} {w w':World} {i:Nat} (hi:ptsN ps t=i) (f:Bool) (hf:f=true↔∃ h:i<ps.length,ps[i].1=t) (hb:Below w.heap.size w w'):BsE ps t w (.returned (.tuple #[.int .i64 i,.bool f])) w':=by
 subst hi;exact ⟨⟨f,rfl,hf⟩,hb⟩
set_option maxHeartbeats 8000000 in
set_option maxRecDepth 100000 in
theorem bsearch_any (ps:List (Int × Int)) (A:Option Addr) (c:Nat) (t:Int) (w:World) (hc:Cells w A (ps.flatMap pntC)) (hn:ps.length≤c∧c≤maxLen) (hok:PtsOK ps) (ht:0≤t∧t≤1073741824) :
  Calls Tryz.prog 111 #[.slice A ps.length c,.int .i64 t,.func (Fn.func 112) #[] #[]] w (BsE ps t w):=by
 unfold maxLen at hn
 have HC:=Lib.hid hc
 have HK:=Lib.hid hok
 have hp0:=hok.pos
 have hp16:=hok.len
 clear hc hok
 obtain ⟨g1,o1,hA1,hg1,hx1⟩:=elemsP pntC_len (by decide) HC.out (by omega)
 subst hA1
 have HX:=Lib.hid (fun (wn:World) (hb:Below w.heap.size w wn) (i:Nat) (hi:i<ps.length)=>(⟨(hb.cell (p:=⟨g1,o1+i*2,none⟩) hg1).trans (hx1 i hi 0 (.int .i64 ps[i].1) rfl),(hb.cell (p:=⟨g1,o1+i*2+1,none⟩) hg1).trans (hx1 i hi 1 (.int .i64 ps[i].2) rfl)⟩:wn.cell? ⟨g1,o1+i*2,none⟩=some (.int .i64 ps[i].1)∧wn.cell? ⟨g1,o1+i*2+1,none⟩=some (.int .i64 ps[i].2)))
 clear hx1
 go_enter Tryz.func111,Tryz.ntmps111
 go_wp2_with fail
 go_loopw [9,10,11] (fun i j _ wr=>∃ a b:Nat,i=.int .i64 a∧j=.int .i64 b∧a≤b∧b≤ps.length∧(∀ m (h:m<ps.length),m<a→ps[m].1<t)∧(∀ m (h:m<ps.length),b≤m→t≤ps[m].1)∧Below w.heap.size w wr) (fun i j _ _=>(intOf j).toNat - (intOf i).toNat)
 case atStart=>exact ⟨0,ps.length,rfl,rfl,Nat.zero_le _,Nat.le_refl _,fun m h h1=>by omega,fun m h h1=>by omega,Below.refl _ _⟩
 case round =>
  obtain ⟨a,b,rfl,rfl,hab,hbl,hlo,hhi,hbel⟩:=hrel
  have HLO:=Lib.hid hlo
  have HHI:=Lib.hid hhi
  have HBL:=Lib.hid hbel
  clear hlo hhi hbel
  by_cases hlt:a<b
  ·have hlt1:(a:Int)<(b:Int):=by omega
   obtain ⟨m,hm⟩:∃ m,m=(a+b) / 2:=⟨_,rfl⟩
   have hma:a≤m∧m<b:=by omega
   have hml:m<ps.length:=by omega
   have hml1:(m:Int)<(ps.length:Int):=by omega
   obtain ⟨d0,d1⟩:=HX.out wr HBL.out m hml
   have HSH:=Lib.hid (show ((a:Int)+(b:Int)) / 2=(m:Int) by omega)
   have hfit:=mem_fits2 HK.out hml
   have HCM:=Lib.hid (tcmp_any ps[m] t wr hfit.1 ht)
   have HLT:=Lib.hid (fun q (hq:q<ps.length) (h:q≤m)=>pts_mono HK.out hq hml h)
   have HGT:=Lib.hid (fun q (hq:q<ps.length) (h:m≤q)=>pts_mono HK.out hml hq h)
   obtain ⟨⟨f1,f2⟩,_,_⟩:=hfit
   generalize ps[m]=p at *
   clear hm
   go_upto_region 5 with fail
   rw [HSH.out]
   go_wp2_with fail
   refine HCM.out.mono ?_
   rintro e w2 ⟨rfl,hb2⟩
   have HB2:=Lib.hid (below_lift HBL.out hb2)
   clear hb2 HSH
   by_cases hc:p.1 - t<0
   ·go_wp2_with fail
    go_roundw
    case rel=>exact ⟨m+1,b,by go_num,rfl,by omega,hbl,fun q hq h=>by have:=HLT.out q hq (by omega);omega,HHI.out,HB2.out⟩
    case measure=>simp [intOf];omega
   ·go_wp2_with fail
    go_roundw
    case rel=>exact ⟨a,m,rfl,rfl,by omega,by omega,HLO.out,fun q hq h=>by have:=HGT.out q hq h;omega,HB2.out⟩
    case measure=>simp [intOf];omega
  ·have hlt1:¬ (a:Int)<(b:Int):=by omega
   obtain rfl:a=b:=by omega
   have HPN:=Lib.hid (show ptsN ps t=a from ptsN_of hbl (fun j h hj=>HLO.out j h hj) (fun h=>HHI.out a h (Nat.le_refl _)))
   by_cases hal:a<ps.length
   ·have hal1:(a:Int)<(ps.length:Int):=by omega
    obtain ⟨d0,d1⟩:=HX.out wr HBL.out a hal
    have hfit:=mem_fits2 HK.out hal
    have HCM:=Lib.hid (tcmp_any ps[a] t wr hfit.1 ht)
    have HPA:=Lib.hid (show ∃ p,ps[a]=p from ⟨_,rfl⟩)
    obtain ⟨p,hp⟩:=HPA.out
    have HP:=Lib.hid hp
    rw [hp] at d0 d1 HCM hfit
    obtain ⟨⟨f1,f2⟩,_,_⟩:=hfit
    clear hp HPA
    go_wp2_with fail
    refine HCM.out.mono ?_
    rintro e w2 ⟨rfl,hb2⟩
    have HB2:=Lib.hid (below_lift HBL.out hb2)
    clear hb2
    by_cases hc:p.1=t
    ·have hc1:(p.1 - t == 0)=true:=by rw [beq_iff_eq];omega
     have HC1:=Lib.hid hc
     clear hc
     go_wp2_with fail
     go_ret2
     exact BsE.mk HPN.out true ⟨fun _=>⟨hal,by rw [HP.out];exact HC1.out⟩,fun _=>rfl⟩ HB2.out
    ·have hc1:(p.1 - t == 0)=false:=by rw [beq_eq_false_iff_ne];omega
     have HC1:=Lib.hid hc
     clear hc
     go_wp2_with fail
     go_ret2
     exact BsE.mk HPN.out false ⟨fun h=>Bool.noConfusion h,fun h=>by obtain ⟨h1,h2⟩:=h;rw [HP.out] at h2;exact absurd h2 HC1.out⟩ HB2.out
   ·have hal1:¬ (a:Int)<(ps.length:Int):=by omega
    go_wp2_with fail
    go_ret2
    exact BsE.mk HPN.out false ⟨fun h=>Bool.noConfusion h,fun h=>by obtain ⟨h1,h2⟩:=h;omega⟩ HBL.out
set_option maxHeartbeats 8000000 in
set_option maxRecDepth 100000 in
theorem tarrive_any (ps:List (Int × Int)) (A:Option Addr) (c:Nat) (t:Int) (w:World) (hc:Cells w A (ps.flatMap pntC)) (hn:ps.length≤c∧c≤maxLen) (hok:PtsOK ps) (ht:0≤t∧t≤1073741824) :
  Calls Tryz.prog 55 #[.slice A ps.length c,.int .i64 t] w fun e w'=>e=.returned (.int .i64 (arrT ps t))∧Below w.heap.size w w':=by
 have HBS:=Lib.hid (bsearch_any ps A c t w hc hn hok ht)
 unfold maxLen at hn
 have HC:=Lib.hid hc
 have HK:=Lib.hid hok
 have hp0:=hok.pos
 have hp16:=hok.len
 clear hc hok
 obtain ⟨g1,o1,hA1,hg1,hx1⟩:=elemsP pntC_len (by decide) HC.out (by omega)
 subst hA1
 have HX:=Lib.hid (fun (wn:World) (hb:Below w.heap.size w wn) (i:Nat) (hi:i<ps.length)=>(⟨(hb.cell (p:=⟨g1,o1+i*2,none⟩) hg1).trans (hx1 i hi 0 (.int .i64 ps[i].1) rfl),(hb.cell (p:=⟨g1,o1+i*2+1,none⟩) hg1).trans (hx1 i hi 1 (.int .i64 ps[i].2) rfl)⟩:wn.cell? ⟨g1,o1+i*2,none⟩=some (.int .i64 ps[i].1)∧wn.cell? ⟨g1,o1+i*2+1,none⟩=some (.int .i64 ps[i].2)))
 clear hx1
 unfold BsE at HBS
 have hle:=ptsN_le ps t
 have HSP:=Lib.hid (ptsN_spec ps t)
 have HAR:=Lib.hid (show arrT ps t=_ from by unfold arrT;rfl)
 simp only at HAR
 generalize ptsN ps t=i at *
 generalize arrT ps t=res at *
 go_enter Tryz.func55,Tryz.ntmps55
 go_wp2_with fail
 refine HBS.out.mono ?_
 rintro e w1 ⟨⟨f,rfl,hf⟩,hb1⟩
 have HB1:=Lib.hid hb1
 clear hb1 HBS
 cases f with
 |true =>
  obtain ⟨hil,hit⟩:=hf.1 rfl
  have hil1:(i:Int)<(ps.length:Int):=by omega
  obtain ⟨d0,d1⟩:=HX.out w1 HB1.out i hil
  have HR:=Lib.hid (show res=ps[i].2 by rw [HAR.out,List.getElem?_eq_getElem hil];simp only;rw [if_pos hit])
  clear hf hit HAR
  generalize ps[i]=q at *
  go_wp2_with fail
  go_ret
  exact ⟨ret_int HR.out.symm,HB1.out⟩
 |false =>
  have hnf:¬ ∃ h:i<ps.length,ps[i].1=t:=fun h=>by have:=hf.2 h;cases this
  by_cases h0:i=0
  ·subst h0
   obtain ⟨d0,d1⟩:=HX.out w1 HB1.out 0 hp0
   have hfit:=mem_fits2 HK.out hp0
   have HR:=Lib.hid (show res=t+ps[0].2 - ps[0].1 by
    rw [HAR.out,List.getElem?_eq_getElem hp0]
    show (if ps[0].1=t then ps[0].2 else if (0:Nat)=0 then t+ps[0].2 - ps[0].1 else _)=_
    rw [if_neg (fun e=>hnf ⟨hp0,e⟩),if_pos rfl])
   simp only [Nat.zero_mul,Nat.add_zero] at d0 d1
   clear hf hnf HAR
   obtain ⟨⟨f1,f2⟩,f3,f4⟩:=hfit
   generalize ps[0]=q at *
   go_upto_region 5 with fail
   go_quiet (fail)
   have hb7:=below_drewN HB1.out nq
   go_wp2_with fail
   go_ret
   exact ⟨ret_int HR.out.symm,hb7⟩
  ·have h0i:((i:Int) == 0)=false:=by rw [beq_eq_false_iff_ne];omega
   have him:(i:Int) - 1=((i - 1:Nat):Int):=by omega
   have hi1:i - 1<ps.length:=by omega
   obtain ⟨d0,d1⟩:=HX.out w1 HB1.out (i - 1) hi1
   have hfit:=mem_fits2 HK.out hi1
   by_cases hil:i<ps.length
   ·have hil1:(i:Int)<(ps.length:Int):=by omega
    have hile:((i:Int) == (ps.length:Int))=false:=by rw [beq_eq_false_iff_ne];omega
    obtain ⟨x0,x1⟩:=HX.out w1 HB1.out i hil
    have hfit2:=mem_fits2 HK.out hil
    obtain ⟨hlt2,hm2⟩:=pts_prev HK.out (by omega) hil
    have ht1:=HSP.out.1 (i - 1) hi1 (by omega)
    have ht2:=HSP.out.2 hil
    have HR:=Lib.hid (show res=ps[i - 1].2+((t - ps[i - 1].1)*(ps[i].2 - ps[i - 1].2)+(ps[i].1 - ps[i - 1].1) - 1).tdiv (ps[i].1 - ps[i - 1].1) by
     rw [HAR.out,List.getElem?_eq_getElem hil]
     show (if ps[i].1=t then ps[i].2 else if i=0 then _ else _)=_
     rw [if_neg (fun e=>hnf ⟨hil,e⟩),if_neg h0,List.getElem?_eq_getElem hi1])
    clear hf hnf HAR HSP
    obtain ⟨⟨f1,f2⟩,f3,f4⟩:=hfit
    obtain ⟨⟨f5,f6⟩,f7,f8⟩:=hfit2
    generalize ps[i - 1]=p at *
    generalize ps[i]=q at *
    have hpr1:0≤(t - p.1)*(q.2 - p.2):=Int.mul_nonneg (by omega) (by omega)
    have hpr2:(t - p.1)*(q.2 - p.2)≤4096*8192:=Int.le_trans (Int.mul_le_mul_of_nonneg_right (show t - p.1≤4096 by omega) (by omega)) (Int.mul_le_mul_of_nonneg_left (show q.2 - p.2≤8192 by omega) (by omega))
    have hq0:(q.1 - p.1 == 0)=false:=by rw [beq_eq_false_iff_ne];omega
    go_upto_region 8 with fail
    go_cut [7,8] (fun x y wx=>∃ ga gb:Nat,x=.pointer (some ⟨ga,0,none⟩)∧y=.pointer (some ⟨gb,0,none⟩)∧wx.heap[ga]? = some (.cells #[.int .i64 p.1,.int .i64 p.2] 74)∧wx.heap[gb]? = some (.cells #[.int .i64 q.1,.int .i64 q.2] 74)∧Below w.heap.size w wx)
    case first =>
     have hg2:g1<w1.heap.size:=Nat.lt_of_lt_of_le hg1 HB1.out.size
     go_region
     all_goals (go_wp2_with fail;go_meet)
     ·obtain ⟨k1,k2,k3⟩:=two_new w1 (.cells #[.int .i64 p.1,.int .i64 p.2] 74) (.cells #[.int .i64 q.1,.int .i64 q.2] 74)
      exact ⟨_,_,rfl,rfl,k1,k2,below_lift HB1.out k3⟩
     ·obtain ⟨k1,k2,k3⟩:=two_new w1 (.cells #[.int .i64 q.1,.int .i64 q.2] 74) (.cells #[.int .i64 p.1,.int .i64 p.2] 74)
      exact ⟨_,_,rfl,rfl,k2,k1,below_lift HB1.out k3⟩
    case rest =>
     obtain ⟨ga,gb,rfl,rfl,h1,h2,hbc⟩:=hcut
     have HBC:=Lib.hid hbc
     clear hbc d0 d1 x0 x1
     obtain ⟨a0,a1⟩:=cells2 h1
     obtain ⟨b0,b1⟩:=cells2 h2
     clear h1 h2
     have htd:=tdiv_bounds (a:=(t - p.1)*(q.2 - p.2)+(q.1 - p.1) - 1) (d:=q.2 - p.2) (show 0<q.1 - p.1 by omega) (by omega) (by
      have:(t - p.1)*(q.2 - p.2)≤(q.1 - p.1)*(q.2 - p.2):=Int.mul_le_mul_of_nonneg_right (by omega) (by omega)
      omega)
     go_upto_region 10 with fail
     go_quiet (fail)
     have hb7:=below_drewN HBC.out nq
     go_wp2_with fail
     go_ret
     exact ⟨ret_int HR.out.symm,hb7⟩
   ·have hie:i=ps.length:=by omega
    have HR:=Lib.hid (show res=t+ps[i - 1].2 - ps[i - 1].1 by
     rw [HAR.out,List.getElem?_eq_none (by omega)]
     show (match ps[i - 1]? with | some p=>t+p.2 - p.1 | none=>0)=_
     rw [List.getElem?_eq_getElem hi1])
    have hile:((i:Int) == (ps.length:Int))=true:=by rw [beq_iff_eq];omega
    clear hf hnf HAR HSP hie
    obtain ⟨⟨f1,f2⟩,f3,f4⟩:=hfit
    generalize ps[i - 1]=p at *
    go_upto_region 7 with fail
    go_quiet (fail)
    have hb7:=below_drewN HB1.out nq
    go_wp2_with fail
    go_ret
    exact ⟨ret_int HR.out.symm,hb7⟩
set_option maxHeartbeats 4000000 in
theorem tArrive_ok (ps:List (Int × Int)) (A:Option Addr) (c:Nat) (t:Int) (w:World) (hc:Cells w A (ps.flatMap pntC)) (hn:ps.length≤c∧c≤maxLen) (hok:PtsOK ps) (ht:0≤t∧t≤1073741824) (hT:Tab w) :
  Calls Tryz.prog 18 #[.slice A ps.length c,.int .i64 t] w fun e w'=>e=.returned (.int .i64 (arrT ps t))∧Below w.heap.size w w':=by
 have HRI:=Lib.hid (tright_ok ps A c w hc hn hok hT)
 have HAR:=Lib.hid (fun w' (hb:Below w.heap.size w w')=>tarrive_any ps A c t w' (hc.below hb) hn hok ht)
 clear hc hok hn hT
 go_enter Tryz.func18,Tryz.ntmps18
 go_wp2_with fail
 refine (twithin_any t 0 1073741824 w).mono ?_
 rintro e w6 ⟨rfl,hw6⟩
 obtain rfl:=hw6.symm
 rw [inR_tt ht.1 ht.2]
 go_wp2_with fail
 refine HRI.out.mono ?_
 rintro e w1 ⟨rfl,hb1⟩
 have HA1:=Lib.hid (HAR.out w1 hb1)
 have HB1:=Lib.hid hb1
 clear hb1
 go_wp2_with fail
 refine HA1.out.mono ?_
 rintro e w2 ⟨rfl,hb2⟩
 have hb3:=below_lift HB1.out hb2
 go_wp2_with fail
 go_ret
 exact ⟨rfl,hb3⟩
abbrev netA (m:InsM):Value:=.agg #[.slice m.pA m.places.length m.pc,.slice m.aA m.arcs.length m.ac]
abbrev arcA (a:ArcM):Value:=.agg #[.int .i64 a.a.frm,.int .i64 a.a.tgt,.int .i64 a.a.prof,.int .i64 a.a.miles,.slice a.A a.a.trav.length a.ca,.slice a.C a.a.slow.length a.cc]
theorem isPlace_tt {m:InsM} {i:Int} (h1:0≤i) (h2:i<(m.places.length:Int)):isPlace m.v i=true:=by
 unfold isPlace;rw [decide_eq_true h1,decide_eq_true (show i<(m.v.places.length:Int) from h2)];rfl
theorem isPlace_f1 {m:InsM} {i:Int} (h1:¬ 0≤i):isPlace m.v i=false:=by unfold isPlace;rw [decide_eq_false h1];rfl
theorem isPlace_f2 {m:InsM} {i:Int} (h2:¬ i<(m.places.length:Int)):isPlace m.v i=false:=by
 unfold isPlace;rw [decide_eq_false (show ¬ i<(m.v.places.length:Int) from h2)];simp
set_option maxHeartbeats 4000000 in
theorem nplace_any (m:InsM) (i:Int) (w:World) (hl:m.places.length≤6):Calls Tryz.prog 95 #[netA m,.int .i64 i] w fun e w'=>e=.returned (.bool (isPlace m.v i))∧Below w.heap.size w w':=by
 obtain ⟨n4,p4⟩:=new_at w (.cells #[.slice m.pA m.places.length m.pc,.slice m.aA m.arcs.length m.ac] 25)
 have HN:=Lib.hid n4
 clear n4
 obtain ⟨c0,c1⟩:=cells2 p4
 clear p4
 by_cases h1:0≤i
 ·by_cases h2:i<(m.places.length:Int)
  ·have HR:=Lib.hid (isPlace_tt h1 h2)
   go_enter Tryz.func95,Tryz.ntmps95
   go_wp2_with fail
   go_ret
   exact ⟨ret_bool HR.out.symm,HN.out⟩
  ·have HR:=Lib.hid (isPlace_f2 h2)
   go_enter Tryz.func95,Tryz.ntmps95
   go_wp2_with fail
   go_ret
   exact ⟨ret_bool HR.out.symm,HN.out⟩
 ·have HR:=Lib.hid (isPlace_f1 (m:=m) h1)
  go_enter Tryz.func95,Tryz.ntmps95
  go_wp2_with fail
  go_ret
  exact ⟨ret_bool HR.out.symm,HN.out⟩
set_option maxHeartbeats 4000000 in
theorem wayOf_any (a:ArcM) (w:World):Calls Tryz.prog 139 #[arcA a] w fun e w'=>e=.returned (.agg #[.int .i64 a.a.frm,.int .i64 a.a.tgt,.int .i64 a.a.prof])∧Below w.heap.size w w':=by
 obtain ⟨n4,p4⟩:=new_at w (.cells #[.int .i64 a.a.frm,.int .i64 a.a.tgt,.int .i64 a.a.prof,.int .i64 a.a.miles,.slice a.A a.a.trav.length a.ca,.slice a.C a.a.slow.length a.cc] 188)
 obtain ⟨n5,p5⟩:=new_at (w.alloc (.cells #[.int .i64 a.a.frm,.int .i64 a.a.tgt,.int .i64 a.a.prof,.int .i64 a.a.miles,.slice a.A a.a.trav.length a.ca,.slice a.C a.a.slow.length a.cc] 188)) (.cells #[.int .i64 a.a.frm,.int .i64 a.a.tgt,.int .i64 a.a.prof] 236)
 have hs:(w.alloc (.cells #[.int .i64 a.a.frm,.int .i64 a.a.tgt,.int .i64 a.a.prof,.int .i64 a.a.miles,.slice a.A a.a.trav.length a.ca,.slice a.C a.a.slow.length a.cc] 188)).heap.size=w.heap.size+1:=by simp
 rw [hs] at p5
 have HB:=Lib.hid (below_lift n4 n5)
 have HP:=Lib.hid p5
 clear n4 n5 p4 p5 hs
 go_enter Tryz.func139,Tryz.ntmps139
 go_wp2_with fail
 refine bodyPost_ret (res_row1 rfl (ld_way HP.out) rfl) rfl ?_
 exact ⟨rfl,HB.out⟩
def isArc (prof frm tgt:Int) (a:ArcM):Bool:=a.a.frm == frm && a.a.tgt == tgt && a.a.prof == prof
def FindE (m:InsM) (prof frm tgt:Int) (w:World) (e:Ending) (w':World):Prop :=
 (match m.arcs.find? (isArc prof frm tgt) with
 |some a=>e=.returned (.tuple #[arcA a,.bool true])
 |none=>e=.returned (.tuple #[.agg #[.int .i64 0,.int .i64 0,.int .i64 0,.int .i64 0,.slice none 0 0,.slice none 0 0],.bool false]))∧Below w.heap.size w w'
theorem find_at {α:Type} {p:α→Bool}:∀ {l:List α} {k:Nat} (hk:k<l.length),(∀ j (h:j<l.length),j<k→p l[j]=false)→p l[k]=true→l.find? p=some l[k]
 |[],k,hk,_,_=>absurd hk (by simp)
 |a :: l,0,_,_,h=>by rw [List.find?_cons_of_pos (by simpa using h)];rfl
 |a :: l,k+1,hk,hf,h=>by
  rw [List.find?_cons_of_neg (by have:=hf 0 (by simp) (by omega);simpa using this)]
  exact find_at (by simpa using hk) (fun j hj hjk=>hf (j+1) (by simpa using hj) (by omega)) h
theorem find_no {α:Type} {p:α→Bool} {l:List α} (h:∀ j (h:j<l.length),p l[j]=false):l.find? p=none:=by
 rw [List.find?_eq_none]
 intro x hx
 obtain ⟨j,hj,rfl⟩:=List.getElem_of_mem hx
 rw [h j hj];simp
theorem FindE.yes {m:InsM} {prof frm tgt:Int} {w w':World} {k:Nat} (hk:k<m.arcs.length) (h1:∀ j (h:j<m.arcs.length),j<k→isArc prof frm tgt m.arcs[j]=false) (h2:isArc prof frm tgt m.arcs[k]=true) (hb:Below w.heap.size w w'):FindE m prof frm tgt w (.returned (.tuple #[arcA m.arcs[k],.bool true])) w':=by
 unfold FindE;rw [find_at hk h1 h2];exact ⟨rfl,hb⟩
theorem FindE.no {m:InsM} {prof frm tgt:Int} {w w':World} (h1:∀ j (h:j<m.arcs.length),isArc prof frm tgt m.arcs[j]=false) (hb:Below w.heap.size w w'):FindE m prof frm tgt w (.returned (.tuple #[.agg #[.int .i64 0,.int .i64 0,.int .i64 0,.int .i64 0,.slice none 0 0,.slice none 0 0],.bool false])) w':=by
 unfold FindE;rw [find_no h1];exact ⟨rfl,hb⟩
set_option maxHeartbeats 8000000 in
set_option maxRecDepth 100000 in
theorem nfind_any (m:InsM) (prof frm tgt:Int) (w:World) (hc:Cells w m.aA (m.arcs.flatMap ArcM.cells)) (hl:m.arcs.length≤40) (hn:m.arcs.length≤m.ac∧m.ac≤maxLen) :
  Calls Tryz.prog 96 #[netA m,.int .i64 prof,.int .i64 frm,.int .i64 tgt] w (FindE m prof frm tgt w):=by
 have HC:=Lib.hid hc
 unfold maxLen at hn
 clear hc
 go_enter Tryz.func96,Tryz.ntmps96
 (try simp only [B_mk])
 go_upto_region 3 with fail
 obtain ⟨k1,k2,k3,k4⟩:=alloc3 w (.cells #[.slice m.pA m.places.length m.pc,.slice m.aA m.arcs.length m.ac] 25) (.cells #[.int .i64 0,.int .i64 0,.int .i64 0,.int .i64 0,.slice none 0 0,.slice none 0 0] 188) (.cells #[.int .i64 frm,.int .i64 tgt,.int .i64 prof] 236)
 generalize ((w.alloc (.cells #[.slice m.pA m.places.length m.pc,.slice m.aA m.arcs.length m.ac] 25)).alloc (.cells #[.int .i64 0,.int .i64 0,.int .i64 0,.int .i64 0,.slice none 0 0,.slice none 0 0] 188)).alloc (.cells #[.int .i64 frm,.int .i64 tgt,.int .i64 prof] 236)=w3 at *
 obtain ⟨ga,hga⟩:∃ ga,ga=w.heap.size+1:=⟨_,rfl⟩
 obtain ⟨gb,hgb⟩:∃ gb,gb=w.heap.size+1+1:=⟨_,rfl⟩
 rw [← hgb] at k3
 rw [← hgb,← hga]
 rw [← hga] at k2
 have HGA:=Lib.hid (show w.heap.size≤ga∧w.heap.size≤gb∧ga≠gb by omega)
 have HK2:=Lib.hid k2
 have HK3:=Lib.hid k3
 have HK4:=Lib.hid k4
 clear k1 k2 k3 k4 hga hgb
 go_loopw [9,20] (fun _ j wr=>∃ k:Nat,k≤m.arcs.length∧j=.int .i64 k∧(∀ j (h:j<m.arcs.length),j<k→isArc prof frm tgt m.arcs[j]=false)∧wr.heap[ga]? = some (.cells #[.int .i64 0,.int .i64 0,.int .i64 0,.int .i64 0,.slice none 0 0,.slice none 0 0] 188)∧wr.heap[gb]? = some (.cells #[.int .i64 frm,.int .i64 tgt,.int .i64 prof] 236)∧Below w.heap.size w wr) (fun _ j _=>m.arcs.length - (intOf j).toNat)
 case atStart=>exact ⟨0,Nat.zero_le _,rfl,fun j h h1=>by omega,HK2.out,HK3.out,HK4.out⟩
 case round =>
  clear HK2 HK3 HK4
  obtain ⟨k,hk,rfl,hno,hra,hrb,hbel⟩:=hrel
  have HNO:=Lib.hid hno
  have HRA:=Lib.hid hra
  have HRB:=Lib.hid hrb
  have HB:=Lib.hid hbel
  clear hno hra hrb hbel
  by_cases hlt:k<m.arcs.length
  ·have hlt1:(k:Int)<(m.arcs.length:Int):=by omega
   obtain ⟨g1,o1,hA1,hg1,hx1⟩:=elemsP ArcM.cells_len (by decide) HC.out (by omega)
   have HX:=Lib.hid (show ∀ j v,(ArcM.cells m.arcs[k])[j]? = some v→wr.cell? ⟨g1,o1+k*6+j,none⟩=some v from fun j v h=>(HB.out.cell (p:=⟨g1,o1+k*6+j,none⟩) hg1).trans (hx1 k hlt j v h))
   have HPA:=Lib.hid (show ∃ p,m.arcs[k]=p from ⟨_,rfl⟩)
   obtain ⟨a,ha⟩:=HPA.out
   rw [ha] at HX
   have HA:=Lib.hid ha
   clear hx1 ha HPA
   have x0:=HX.out 0 _ rfl
   have x1:=HX.out 1 _ rfl
   have x2:=HX.out 2 _ rfl
   have x3:=HX.out 3 _ rfl
   have x4:=HX.out 4 _ rfl
   have x5:=HX.out 5 _ rfl
   rw [Nat.add_zero] at x0
   clear HX
   obtain ⟨n4,p4⟩:=new_at wr (.cells #[.int .i64 a.a.frm,.int .i64 a.a.tgt,.int .i64 a.a.prof,.int .i64 a.a.miles,.slice a.A a.a.trav.length a.ca,.slice a.C a.a.slow.length a.cc] 188)
   have HN4:=Lib.hid n4
   rw [hA1]
   go_upto_region 5 with fail
   clear x0 x1 x2 x3 x4 x5
   generalize wr.alloc (.cells #[.int .i64 a.a.frm,.int .i64 a.a.tgt,.int .i64 a.a.prof,.int .i64 a.a.miles,.slice a.A a.a.trav.length a.ca,.slice a.C a.a.slow.length a.cc] 188)=w4 at *
   have HB5:=Lib.hid (below_lift HB.out HN4.out)
   have HRA5:=Lib.hid (row_keep HRA.out HN4.out)
   have HRB5:=Lib.hid (row_keep HRB.out HN4.out)
   have HP5:=Lib.hid p4
   obtain ⟨g5,hg5⟩:∃ g5,g5=wr.heap.size:=⟨_,rfl⟩
   rw [← hg5] at p4 HP5
   rw [← hg5]
   clear hg5 HN4 HRA HRB HB
   go_cut [27] (fun x wx=>x=.bool (isArc prof frm tgt a)∧Below w4.heap.size w4 wx)
   case first =>
    obtain ⟨c0,c1,c2,c3,c4,c5⟩:=cells6 p4
    obtain ⟨d0,d1,d2⟩:=cells3 HRB5.out
    have hgb4:=lt_heap HRB5.out
    have hg54:=lt_heap p4
    have HKP:=Lib.hid (show ∀ w' w2,(Below w4.heap.size w4 w'∧w'.cell? ⟨g5,0,none⟩=some (.int .i64 a.a.frm)∧w'.cell? ⟨g5,1,none⟩=some (.int .i64 a.a.tgt)∧w'.cell? ⟨g5,2,none⟩=some (.int .i64 a.a.prof)∧w'.cell? ⟨g5,3,none⟩=some (.int .i64 a.a.miles)∧w'.cell? ⟨g5,4,none⟩=some (.slice a.A a.a.trav.length a.ca)∧w'.cell? ⟨g5,5,none⟩=some (.slice a.C a.a.slow.length a.cc)∧w'.cell? ⟨gb,0,none⟩=some (.int .i64 frm)∧w'.cell? ⟨gb,1,none⟩=some (.int .i64 tgt)∧w'.cell? ⟨gb,2,none⟩=some (.int .i64 prof))→Below w'.heap.size w' w2→(Below w4.heap.size w4 w2∧w2.cell? ⟨g5,0,none⟩=some (.int .i64 a.a.frm)∧w2.cell? ⟨g5,1,none⟩=some (.int .i64 a.a.tgt)∧w2.cell? ⟨g5,2,none⟩=some (.int .i64 a.a.prof)∧w2.cell? ⟨g5,3,none⟩=some (.int .i64 a.a.miles)∧w2.cell? ⟨g5,4,none⟩=some (.slice a.A a.a.trav.length a.ca)∧w2.cell? ⟨g5,5,none⟩=some (.slice a.C a.a.slow.length a.cc)∧w2.cell? ⟨gb,0,none⟩=some (.int .i64 frm)∧w2.cell? ⟨gb,1,none⟩=some (.int .i64 tgt)∧w2.cell? ⟨gb,2,none⟩=some (.int .i64 prof)) from fun w' w2 ⟨h0,h1,h2,h3,h4,h5,h6,h7,h8,h9⟩ hb=>by
     exact ⟨below_lift h0 hb,cell_held h0 hb hg54 h1,cell_held h0 hb hg54 h2,cell_held h0 hb hg54 h3,cell_held h0 hb hg54 h4,cell_held h0 hb hg54 h5,cell_held h0 hb hg54 h6,cell_held h0 hb hgb4 h7,cell_held h0 hb hgb4 h8,cell_held h0 hb hgb4 h9⟩)
    have hS0:Below w4.heap.size w4 w4.drew∧w4.drew.cell? ⟨g5,0,none⟩=some (.int .i64 a.a.frm)∧w4.drew.cell? ⟨g5,1,none⟩=some (.int .i64 a.a.tgt)∧w4.drew.cell? ⟨g5,2,none⟩=some (.int .i64 a.a.prof)∧w4.drew.cell? ⟨g5,3,none⟩=some (.int .i64 a.a.miles)∧w4.drew.cell? ⟨g5,4,none⟩=some (.slice a.A a.a.trav.length a.ca)∧w4.drew.cell? ⟨g5,5,none⟩=some (.slice a.C a.a.slow.length a.cc)∧w4.drew.cell? ⟨gb,0,none⟩=some (.int .i64 frm)∧w4.drew.cell? ⟨gb,1,none⟩=some (.int .i64 tgt)∧w4.drew.cell? ⟨gb,2,none⟩=some (.int .i64 prof):=⟨(Below.refl _ w4).drew,c0,c1,c2,c3,c4,c5,d0,d1,d2⟩
    have HWA:=Lib.hid (fun wz=>wayOf_any a wz)
    have HIS:=Lib.hid (show isArc prof frm tgt a=(a.a.frm == frm && a.a.tgt == tgt && a.a.prof == prof) from rfl)
    generalize isArc prof frm tgt a=ia at *
    cases e1:a.a.frm == frm <;> cases e2:a.a.tgt == tgt <;> cases e3:a.a.prof == prof <;> rw [e1,e2,e3] at HIS
    all_goals go_region_held3 (fun w'=>Below w4.heap.size w4 w'∧w'.cell? ⟨g5,0,none⟩=some (.int .i64 a.a.frm)∧w'.cell? ⟨g5,1,none⟩=some (.int .i64 a.a.tgt)∧w'.cell? ⟨g5,2,none⟩=some (.int .i64 a.a.prof)∧w'.cell? ⟨g5,3,none⟩=some (.int .i64 a.a.miles)∧w'.cell? ⟨g5,4,none⟩=some (.slice a.A a.a.trav.length a.ca)∧w'.cell? ⟨g5,5,none⟩=some (.slice a.C a.a.slow.length a.cc)∧w'.cell? ⟨gb,0,none⟩=some (.int .i64 frm)∧w'.cell? ⟨gb,1,none⟩=some (.int .i64 tgt)∧w'.cell? ⟨gb,2,none⟩=some (.int .i64 prof))
     (first | (exact HKP.out _ _ (by assumption) hbz) | (with_reducible exact hS0))
     ((go_at_call 139;((with_reducible refine (HWA.out _).mono ?_);rintro e wz ⟨rfl,hbz⟩)))
    all_goals
     have HBZ:=Lib.hid (show Below w4.heap.size w4 wz∧wz.cell? ⟨g5,0,none⟩=some (.int .i64 a.a.frm)∧wz.cell? ⟨g5,1,none⟩=some (.int .i64 a.a.tgt)∧wz.cell? ⟨g5,2,none⟩=some (.int .i64 a.a.prof)∧wz.cell? ⟨g5,3,none⟩=some (.int .i64 a.a.miles)∧wz.cell? ⟨g5,4,none⟩=some (.slice a.A a.a.trav.length a.ca)∧wz.cell? ⟨g5,5,none⟩=some (.slice a.C a.a.slow.length a.cc)∧wz.cell? ⟨gb,0,none⟩=some (.int .i64 frm)∧wz.cell? ⟨gb,1,none⟩=some (.int .i64 tgt)∧wz.cell? ⟨gb,2,none⟩=some (.int .i64 prof) from by assumption).1
     go_wp2_with fail
     go_meet
     exact ⟨by rw [HIS.out];rfl,HBZ.out⟩
   case rest =>
    obtain ⟨rfl,hbc⟩:=hcut
    have HBC:=Lib.hid (below_lift HB5.out hbc)
    have HRA6:=Lib.hid (row_keep HRA5.out hbc)
    have HRB6:=Lib.hid (row_keep HRB5.out hbc)
    have HP6:=Lib.hid (row_keep HP5.out hbc)
    clear hbc HB5 HRA5 HRB5 HP5 p4
    cases hia:isArc prof frm tgt a with
    |true =>
     have z0:=frz HRA6.out 0
     have z1:=frz HRA6.out 1
     have z2:=frz HRA6.out 2
     have z3:=frz HRA6.out 3
     have z4:=frz HRA6.out 4
     have z5:=frz HRA6.out 5
     obtain ⟨y0,y1,y2,y3,y4,y5⟩:=cells6 HRA6.out
     obtain ⟨c0,c1,c2,c3,c4,c5⟩:=cells6 HP6.out
     have HS:=Lib.hid (set6 (a:=.int .i64 a.a.frm) (b:=.int .i64 a.a.tgt) (c:=.int .i64 a.a.prof) (d:=.int .i64 a.a.miles) (e:=.slice a.A a.a.trav.length a.ca) (f:=.slice a.C a.a.slow.length a.cc) HRA6.out HBC.out HGA.out.1)
     have HIA:=Lib.hid hia
     clear hia
     go_wp2_with fail
     refine bodyPost_ret (res_row rfl (ld_arc HS.out.1) rfl rfl) rfl ?_
     have:=FindE.yes hlt HNO.out (by rw [HA.out];exact HIA.out) HS.out.2
     rw [HA.out] at this
     exact this
    |false =>
     have HIA:=Lib.hid hia
     clear hia
     go_wp2_with fail
     go_roundw
     case rel =>
      refine ⟨k+1,by omega,by go_num,fun j hj hjk=>?_,HRA6.out,HRB6.out,HBC.out⟩
      rcases Nat.lt_or_eq_of_le (Nat.le_of_lt_succ hjk) with h6 | h6
      ·exact HNO.out j hj h6
      ·subst h6;rw [HA.out];exact HIA.out
     case measure=>simp [intOf];omega
  ·have hlt1:¬ (k:Int)<(m.arcs.length:Int):=by omega
   have z0:=frz HRA.out 0
   have z1:=frz HRA.out 1
   have z2:=frz HRA.out 2
   have z3:=frz HRA.out 3
   have z4:=frz HRA.out 4
   have z5:=frz HRA.out 5
   obtain ⟨y0,y1,y2,y3,y4,y5⟩:=cells6 HRA.out
   have HS:=Lib.hid (set6 (a:=.int .i64 0) (b:=.int .i64 0) (c:=.int .i64 0) (d:=.int .i64 0) (e:=.slice none 0 0) (f:=.slice none 0 0) HRA.out HB.out HGA.out.1)
   have HEK:=Lib.hid (show k=m.arcs.length by omega)
   go_wp2_with fail
   refine bodyPost_ret (res_row rfl (ld_arc HS.out.1) rfl rfl) rfl ?_
   exact FindE.no (fun j hj=>HNO.out j hj (by rw [HEK.out];exact hj)) HS.out.2
theorem slowS_take {l:List (Int × Int)} {t:Int} {k:Nat} (hk:k<l.length):slowS (l.take (k+1)) t=slowS (l.take k) t+(if l[k].1≤t then l[k].2 else 0):=by
 unfold slowS
 rw [List.take_succ_eq_append_getElem hk,List.map_append,List.sum_append]
 simp
theorem slowS_takeB {l:List (Int × Int)} (h:∀ p ∈ l,isTick p.2) (hl:l.length≤16) (k:Nat) (t:Int):0≤slowS (l.take k) t∧slowS (l.take k) t≤65536:=by
 obtain ⟨h1,h2⟩:=slowS_bound (l.take k) t fun p hp=>h p (List.mem_of_mem_take hp)
 have:=List.length_take (i:=k) (l:=l)
 omega
set_option maxHeartbeats 8000000 in
set_option maxRecDepth 100000 in
theorem narrival_any (a:ArcM) (t:Int) (w:World) (ha:ArcAt w a) (hok:ArcOK a.a) (ht:0≤t∧t≤1000000) (hT:Tab w) :
  Calls Tryz.prog 97 #[arcA a,.int .i64 t] w fun e w'=>e=.returned (.int .i64 (arrA a.a t))∧Below w.heap.size w w':=by
 obtain ⟨n4,p4⟩:=new_at w (.cells #[.int .i64 a.a.frm,.int .i64 a.a.tgt,.int .i64 a.a.prof,.int .i64 a.a.miles,.slice a.A a.a.trav.length a.ca,.slice a.C a.a.slow.length a.cc] 188)
 have HN4:=Lib.hid n4
 have HTR:=Lib.hid (tArrive_ok a.a.trav a.A a.ca t _ (ha.trav.below n4) ha.tl hok.trav ⟨ht.1,by omega⟩ (hT.below n4))
 obtain ⟨hb1,hb2⟩:=arrT_bound hok.trav ht.1
 have HSB:=Lib.hid (fun k=>slowS_takeB (fun p hp=>(hok.slow.each p hp).2) hok.slow.len k t)
 have HSE:=Lib.hid hok.slow.each
 have HSL:=Lib.hid ha.slow
 have hsl:=ha.sl
 have hs16:=hok.slow.len
 have HEQ:=Lib.hid (show arrA a.a t=arrT a.a.trav t+slowS (a.a.slow.take a.a.slow.length) t by rw [List.take_length];rfl)
 unfold maxLen at hsl
 generalize arrT a.a.trav t=r0 at *
 generalize arrA a.a t=res at *
 clear ha hok hT n4
 go_enter Tryz.func97,Tryz.ntmps97
 (try simp only [B_mk])
 go_upto_region 1 with fail
 generalize w.alloc (.cells #[.int .i64 a.a.frm,.int .i64 a.a.tgt,.int .i64 a.a.prof,.int .i64 a.a.miles,.slice a.A a.a.trav.length a.ca,.slice a.C a.a.slow.length a.cc] 188)=w4 at *
 obtain ⟨g4,hg4⟩:∃ g4,g4=w.heap.size:=⟨_,rfl⟩
 rw [← hg4] at p4
 rw [← hg4]
 have HP4:=Lib.hid p4
 obtain ⟨c0,c1,c2,c3,c4,c5⟩:=cells6 p4
 clear p4 hg4
 go_wp2_with fail
 refine HTR.out.mono ?_
 rintro e w1 ⟨rfl,hb1'⟩
 clear c0 c1 c2 c3 c4 c5
 have HB1:=Lib.hid (below_lift HN4.out hb1')
 have HP1:=Lib.hid (row_keep HP4.out hb1')
 obtain ⟨c0,c1,c2,c3,c4,c5⟩:=cells6 HP1.out
 clear hb1' HN4 HP4
 generalize hsl0:a.a.slow=sl at *
 generalize a.C=C at *
 generalize a.cc=cc at *
 go_wp2_with fail
 clear c0 c1 c2 c3 c4 c5 HP1 HTR
 go_loopw [5,15] (fun o j wr=>∃ k:Nat,k≤sl.length∧j=.int .i64 k∧o=.int .i64 (r0+slowS (sl.take k) t)∧Below w.heap.size w wr) (fun _ j _=>sl.length - (intOf j).toNat)
 case atStart=>exact ⟨0,Nat.zero_le _,rfl,by simp [slowS],HB1.out⟩
 case round =>
  clear HB1
  obtain ⟨k,hk,rfl,rfl,hbel⟩:=hrel
  have HB:=Lib.hid hbel
  clear hbel
  obtain ⟨hs1,hs2⟩:=HSB.out k
  by_cases hlt:k<sl.length
  ·have hlt1:(k:Int)<(sl.length:Int):=by omega
   have HST:=Lib.hid (slowS_take (t:=t) hlt)
   obtain ⟨g1,o1,hA1,hg1,hx1⟩:=elemsP pntC_len (by decide) HSL.out (by omega)
   subst hA1
   have x0:=(HB.out.cell (p:=⟨g1,o1+k*2,none⟩) hg1).trans (hx1 k hlt 0 (.int .i64 sl[k].1) rfl)
   have x1:=(HB.out.cell (p:=⟨g1,o1+k*2+1,none⟩) hg1).trans (hx1 k hlt 1 (.int .i64 sl[k].2) rfl)
   have hq:=HSE.out _ (List.getElem_mem hlt)
   unfold isTick at hq
   generalize sl[k]=p at *
   generalize slowS (sl.take k) t=sk at *
   obtain ⟨n5,p5⟩:=new_at wr (.cells #[.int .i64 p.1,.int .i64 p.2] 74)
   clear hx1
   go_upto_region 5 with fail
   clear x0 x1
   generalize wr.alloc (.cells #[.int .i64 p.1,.int .i64 p.2] 74)=w5 at *
   have HB5:=Lib.hid (below_lift HB.out n5)
   obtain ⟨x0,x1⟩:=cells2 p5
   clear n5 p5
   by_cases h1:p.1≤t
   ·have HE:=Lib.hid (show slowS (sl.take (k+1)) t=sk+p.2 by rw [HST.out,if_pos h1])
    clear HST
    go_wp2_with fail
    go_roundw
    case rel=>exact ⟨k+1,by omega,by go_num,by rw [HE.out];try rw [Int.add_assoc],HB5.out⟩
    case measure=>simp [intOf];omega
   ·have HE:=Lib.hid (show slowS (sl.take (k+1)) t=sk by rw [HST.out,if_neg h1,Int.add_zero])
    clear HST
    go_wp2_with fail
    go_roundw
    case rel=>exact ⟨k+1,by omega,by go_num,by rw [HE.out];try rw [Int.add_assoc],HB5.out⟩
    case measure=>simp [intOf];omega
  ·have hlt1:¬ (k:Int)<(sl.length:Int):=by omega
   have HKE:=Lib.hid (show k=sl.length by omega)
   go_wp2_with fail
   go_ret
   exact ⟨ret_int (by rw [HEQ.out,← HKE.out]),HB.out⟩
set_option maxHeartbeats 4000000 in
theorem wbegin_any (s:StopV) (t:Int) (w:World):Calls Tryz.prog 128 #[.agg #[.int .i64 s.place,.int .i64 s.opn,.int .i64 s.cls,.int .i64 s.serv],.int .i64 t] w fun e w'=>e=.returned (.tuple #[.int .i64 (if max t s.opn > s.cls then 0 else max t s.opn),.int .i64 (if max t s.opn > s.cls then 14 else 0)])∧Below w.heap.size w w':=by
 obtain ⟨n4,p4⟩:=new_at w (.cells #[.int .i64 s.place,.int .i64 s.opn,.int .i64 s.cls,.int .i64 s.serv] 134)
 have HN4:=Lib.hid n4
 clear n4
 by_cases h2:s.cls<max t s.opn
 ·have HR:=Lib.hid (show (if max t s.opn > s.cls then (0:Int) else max t s.opn)=0∧(if max t s.opn > s.cls then (14:Int) else 0)=14 from ⟨if_pos h2,if_pos h2⟩)
  rw [HR.out.1,HR.out.2]
  clear HR
  go_enter Tryz.func128,Tryz.ntmps128
  go_upto_region 1 with fail
  generalize w.alloc (.cells #[.int .i64 s.place,.int .i64 s.opn,.int .i64 s.cls,.int .i64 s.serv] 134)=w4 at *
  obtain ⟨c0,c1,c2,c3⟩:=cells4 p4
  go_wp2_with fail
  go_ret2
  exact ⟨rfl,HN4.out⟩
 ·have HR:=Lib.hid (show (if max t s.opn > s.cls then (0:Int) else max t s.opn)=max t s.opn∧(if max t s.opn > s.cls then (14:Int) else 0)=0 from ⟨if_neg h2,if_neg h2⟩)
  rw [HR.out.1,HR.out.2]
  clear HR
  go_enter Tryz.func128,Tryz.ntmps128
  go_upto_region 1 with fail
  generalize w.alloc (.cells #[.int .i64 s.place,.int .i64 s.opn,.int .i64 s.cls,.int .i64 s.serv] 134)=w4 at *
  obtain ⟨c0,c1,c2,c3⟩:=cells4 p4
  go_wp2_with fail
  go_ret2
  exact ⟨rfl,HN4.out⟩
def GoE (x:InsV) (prof frm tgt t:Int) (w:World) (e:Ending) (w':World):Prop:=e=.returned (.tuple #[.int .i64 (goP x prof frm tgt t).1,.int .i64 (goP x prof frm tgt t).2.1,.int .i64 (goP x prof frm tgt t).2.2])∧Below w.heap.size w w'
def goM (t:Int):Option ArcM→Int × Int × Int
 |some a=>(arrA a.a t,a.a.miles,0)
 |none=>(0,0,12)
theorem goP_e {m:InsM} {prof frm tgt t:Int}:goP m.v prof frm tgt t=if !isPlace m.v frm || !isPlace m.v tgt then (0,0,(11:Int)) else if frm=tgt then (t,0,0) else goM t (m.arcs.find? (isArc prof frm tgt)):=by
 unfold goP
 have:(m.v.arcs.find? fun a=>a.frm == frm && a.tgt == tgt && a.prof == prof)=(m.arcs.find? (isArc prof frm tgt)).map (·.a):=by
  show ((m.arcs.map (·.a)).find? _)=_
  rw [List.find?_map];rfl
 rw [this]
 cases m.arcs.find? (isArc prof frm tgt) <;> rfl
theorem GoE.of {x:InsV} {prof frm tgt t a b c:Int} {w w':World} (h:goP x prof frm tgt t=(a,b,c)) (hb:Below w.heap.size w w'):GoE x prof frm tgt t w (.returned (.tuple #[.int .i64 a,.int .i64 b,.int .i64 c])) w':=by unfold GoE;rw [h];exact ⟨rfl,hb⟩
set_option maxHeartbeats 8000000 in
set_option maxRecDepth 100000 in
theorem ngo_any (m:InsM) (prof frm tgt t:Int) (w:World) (hm:InsAt w m) (hok:InsOK m.v) (ht:0≤t∧t≤1000000) (hT:Tab w) :
  Calls Tryz.prog 44 #[netA m,.int .i64 prof,.int .i64 frm,.int .i64 tgt,.int .i64 t] w (GoE m.v prof frm tgt t w):=by
 obtain ⟨n4,p4⟩:=new_at w (.cells #[.slice m.pA m.places.length m.pc,.slice m.aA m.arcs.length m.ac] 25)
 have HN4:=Lib.hid n4
 have HP4:=Lib.hid p4
 have HI:=Lib.hid (hm.below n4)
 have HT:=Lib.hid (hT.below n4)
 have HOK:=Lib.hid hok
 have HGP:=Lib.hid (goP_e (m:=m) (prof:=prof) (frm:=frm) (tgt:=tgt) (t:=t))
 have hnp:m.places.length≤6:=hok.np
 have hna:m.arcs.length≤40:=by have:=hok.na;unfold InsM.v at this;simpa using this
 clear n4 p4 hm hok hT
 go_enter Tryz.func44,Tryz.ntmps44
 (try simp only [B_mk])
 go_upto_region 1 with fail
 generalize w.alloc (.cells #[.slice m.pA m.places.length m.pc,.slice m.aA m.arcs.length m.ac] 25)=w4 at *
 obtain ⟨g4,hg4⟩:∃ g4,g4=w.heap.size:=⟨_,rfl⟩
 rw [← hg4] at HP4
 rw [← hg4]
 clear hg4
 obtain ⟨c0,c1⟩:=cells2 HP4.out
 go_wp2_with fail
 refine (nplace_any m frm w4 hnp).mono ?_
 rintro e w1 ⟨rfl,hb1⟩
 clear c0 c1
 have HB1:=Lib.hid (below_lift HN4.out hb1)
 have HP1:=Lib.hid (row_keep HP4.out hb1)
 have HI1:=Lib.hid (HI.out.below hb1)
 have HT1:=Lib.hid (HT.out.below hb1)
 clear hb1 HN4 HP4 HI HT
 cases hf:isPlace m.v frm with
 |false =>
  have HG:=Lib.hid (show goP m.v prof frm tgt t=(0,0,11) by rw [HGP.out,hf];rfl)
  clear HGP hf
  go_wp2_with fail
  go_ret3
  exact GoE.of HG.out HB1.out
 |true =>
  rw [hf] at HGP
  clear hf
  obtain ⟨c0,c1⟩:=cells2 HP1.out
  go_wp2_with fail
  refine (nplace_any m tgt w1 hnp).mono ?_
  rintro e w2 ⟨rfl,hb2⟩
  clear c0 c1
  have HB2:=Lib.hid (below_lift HB1.out hb2)
  have HP2:=Lib.hid (row_keep HP1.out hb2)
  have HI2:=Lib.hid (HI1.out.below hb2)
  have HT2:=Lib.hid (HT1.out.below hb2)
  clear hb2 HB1 HP1 HI1 HT1
  cases hf:isPlace m.v tgt with
  |false =>
   have HG:=Lib.hid (show goP m.v prof frm tgt t=(0,0,11) by rw [HGP.out,hf];rfl)
   clear HGP hf
   go_wp2_with fail
   go_ret3
   exact GoE.of HG.out HB2.out
  |true =>
   rw [hf] at HGP
   clear hf
   by_cases he:frm=tgt
   ·have HG:=Lib.hid (show goP m.v prof frm tgt t=(t,0,0) by rw [HGP.out];show (if frm=tgt then _ else _)=_;rw [if_pos he])
    have he1:(frm == tgt)=true:=int_bt he
    clear HGP he
    go_wp2_with fail
    go_ret3
    exact GoE.of HG.out HB2.out
   ·have HG:=Lib.hid (show goP m.v prof frm tgt t=goM t (m.arcs.find? (isArc prof frm tgt)) by rw [HGP.out];show (if frm=tgt then _ else _)=_;rw [if_neg he])
    have he1:(frm == tgt)=false:=int_bf he
    clear HGP he
    have HFI:=Lib.hid (nfind_any m prof frm tgt w2 HI2.out.arcs hna HI2.out.al)
    unfold FindE at HFI
    obtain ⟨c0,c1⟩:=cells2 HP2.out
    cases hf:m.arcs.find? (isArc prof frm tgt) with
    |none =>
     rw [hf] at HFI HG
     clear hf
     go_wp2_with fail
     refine HFI.out.mono ?_
     rintro e w3 ⟨rfl,hb3⟩
     have HB3:=Lib.hid (below_lift HB2.out hb3)
     have HB4:=Lib.hid (below_lift HB3.out (new_at w3 (.cells #[.int .i64 0,.int .i64 0,.int .i64 0,.int .i64 0,.slice none 0 0,.slice none 0 0] 188)).1)
     clear hb3
     go_wp2_with fail
     go_ret3
     exact GoE.of HG.out HB4.out
    |some a =>
     rw [hf] at HFI HG
     have hmem:=List.mem_of_find?_eq_some hf
     have HAO:=Lib.hid (HOK.out.arcs a.a (List.mem_map.2 ⟨a,hmem,rfl⟩))
     have HAA:=Lib.hid (HI2.out.arcE a hmem)
     clear hf hmem
     go_wp2_with fail
     refine HFI.out.mono ?_
     rintro e w3 ⟨rfl,hb3⟩
     obtain ⟨n5,p5⟩:=new_at w3 (.cells #[.int .i64 a.a.frm,.int .i64 a.a.tgt,.int .i64 a.a.prof,.int .i64 a.a.miles,.slice a.A a.a.trav.length a.ca,.slice a.C a.a.slow.length a.cc] 188)
     have HB3:=Lib.hid (below_lift (below_lift HB2.out hb3) n5)
     have HAR:=Lib.hid (fun wz (hb:Below (w3.alloc (.cells #[.int .i64 a.a.frm,.int .i64 a.a.tgt,.int .i64 a.a.prof,.int .i64 a.a.miles,.slice a.A a.a.trav.length a.ca,.slice a.C a.a.slow.length a.cc] 188)).heap.size (w3.alloc (.cells #[.int .i64 a.a.frm,.int .i64 a.a.tgt,.int .i64 a.a.prof,.int .i64 a.a.miles,.slice a.A a.a.trav.length a.ca,.slice a.C a.a.slow.length a.cc] 188)) wz)=>narrival_any a t wz (((HAA.out.below hb3).below n5).below hb) HAO.out ht (((HT2.out.below hb3).below n5).below hb))
     clear hb3 n5
     go_upto_region 8 with fail
     generalize w3.alloc (.cells #[.int .i64 a.a.frm,.int .i64 a.a.tgt,.int .i64 a.a.prof,.int .i64 a.a.miles,.slice a.A a.a.trav.length a.ca,.slice a.C a.a.slow.length a.cc] 188)=w5 at *
     obtain ⟨g5,hg5'⟩:∃ g5,g5=w3.heap.size:=⟨_,rfl⟩
     rw [← hg5'] at p5
     rw [← hg5']
     have hg5:=lt_heap p5
     obtain ⟨c0,c1,c2,c3,c4,c5⟩:=cells6 p5
     clear hg5' p5
     have HKP:=Lib.hid (show ∀ w' w2,(Below w5.heap.size w5 w'∧w'.cell? ⟨g5,0,none⟩=some (.int .i64 a.a.frm)∧w'.cell? ⟨g5,1,none⟩=some (.int .i64 a.a.tgt)∧w'.cell? ⟨g5,2,none⟩=some (.int .i64 a.a.prof)∧w'.cell? ⟨g5,3,none⟩=some (.int .i64 a.a.miles)∧w'.cell? ⟨g5,4,none⟩=some (.slice a.A a.a.trav.length a.ca)∧w'.cell? ⟨g5,5,none⟩=some (.slice a.C a.a.slow.length a.cc))→Below w'.heap.size w' w2→(Below w5.heap.size w5 w2∧w2.cell? ⟨g5,0,none⟩=some (.int .i64 a.a.frm)∧w2.cell? ⟨g5,1,none⟩=some (.int .i64 a.a.tgt)∧w2.cell? ⟨g5,2,none⟩=some (.int .i64 a.a.prof)∧w2.cell? ⟨g5,3,none⟩=some (.int .i64 a.a.miles)∧w2.cell? ⟨g5,4,none⟩=some (.slice a.A a.a.trav.length a.ca)∧w2.cell? ⟨g5,5,none⟩=some (.slice a.C a.a.slow.length a.cc)) from fun w' w2 ⟨h0,h1,h2,h3,h4,h5,h6⟩ hb=>⟨below_lift h0 hb,cell_held h0 hb hg5 h1,cell_held h0 hb hg5 h2,cell_held h0 hb hg5 h3,cell_held h0 hb hg5 h4,cell_held h0 hb hg5 h5,cell_held h0 hb hg5 h6⟩)
     have hS0:Below w5.heap.size w5 w5.drew∧w5.drew.cell? ⟨g5,0,none⟩=some (.int .i64 a.a.frm)∧w5.drew.cell? ⟨g5,1,none⟩=some (.int .i64 a.a.tgt)∧w5.drew.cell? ⟨g5,2,none⟩=some (.int .i64 a.a.prof)∧w5.drew.cell? ⟨g5,3,none⟩=some (.int .i64 a.a.miles)∧w5.drew.cell? ⟨g5,4,none⟩=some (.slice a.A a.a.trav.length a.ca)∧w5.drew.cell? ⟨g5,5,none⟩=some (.slice a.C a.a.slow.length a.cc):=⟨(Below.refl _ w5).drew,c0,c1,c2,c3,c4,c5⟩
     go_region_held3 (fun w'=>Below w5.heap.size w5 w'∧w'.cell? ⟨g5,0,none⟩=some (.int .i64 a.a.frm)∧w'.cell? ⟨g5,1,none⟩=some (.int .i64 a.a.tgt)∧w'.cell? ⟨g5,2,none⟩=some (.int .i64 a.a.prof)∧w'.cell? ⟨g5,3,none⟩=some (.int .i64 a.a.miles)∧w'.cell? ⟨g5,4,none⟩=some (.slice a.A a.a.trav.length a.ca)∧w'.cell? ⟨g5,5,none⟩=some (.slice a.C a.a.slow.length a.cc))
      (first | (exact HKP.out _ _ (by assumption) hbz) | (with_reducible exact hS0))
      ((go_at_call 97;((with_reducible refine (HAR.out _ (And.left (by assumption))).mono ?_);rintro e wz ⟨rfl,hbz⟩)))
     all_goals
      have HBZ:=Lib.hid (show Below w5.heap.size w5 wz∧wz.cell? ⟨g5,0,none⟩=some (.int .i64 a.a.frm)∧wz.cell? ⟨g5,1,none⟩=some (.int .i64 a.a.tgt)∧wz.cell? ⟨g5,2,none⟩=some (.int .i64 a.a.prof)∧wz.cell? ⟨g5,3,none⟩=some (.int .i64 a.a.miles)∧wz.cell? ⟨g5,4,none⟩=some (.slice a.A a.a.trav.length a.ca)∧wz.cell? ⟨g5,5,none⟩=some (.slice a.C a.a.slow.length a.cc) from by assumption).1
      go_wp2_with fail
      go_ret3
      exact GoE.of HG.out (below_lift HB3.out HBZ.out)
set_option maxHeartbeats 4000000 in
theorem othere_any (A:Option Addr) (n c:Nat) (i:Int) (w:World) (hl:n≤3):Calls Tryz.prog 79 #[.slice A n c,.int .i64 i] w fun e w'=>e=.returned (.bool (decide (0≤i) && decide (i<(n:Int))))∧w'=w:=by
 by_cases h1:0≤i
 ·by_cases h2:i<(n:Int)
  ·have HR:=Lib.hid (show (decide (0≤i) && decide (i<(n:Int)))=true by rw [decide_eq_true h1,decide_eq_true h2];rfl)
   rw [HR.out]
   go_enter Tryz.func79,Tryz.ntmps79
   go_wp2_with fail
   go_ret
   exact ⟨rfl,rfl⟩
  ·have HR:=Lib.hid (show (decide (0≤i) && decide (i<(n:Int)))=false by rw [decide_eq_false h2];simp)
   rw [HR.out]
   go_enter Tryz.func79,Tryz.ntmps79
   go_wp2_with fail
   go_ret
   exact ⟨rfl,rfl⟩
 ·have HR:=Lib.hid (show (decide (0≤i) && decide (i<(n:Int)))=false by rw [decide_eq_false h1];rfl)
  rw [HR.out]
  go_enter Tryz.func79,Tryz.ntmps79
  go_wp2_with fail
  go_ret
  exact ⟨rfl,rfl⟩
abbrev stopA (s:StopV):Value:=.agg #[.int .i64 s.place,.int .i64 s.opn,.int .i64 s.cls,.int .i64 s.serv]
abbrev stop0:StopV:=⟨0,0,0,0⟩
def StopE (x:InsV) (v:Int × Bool) (w:World) (e:Ending) (w':World):Prop :=
 (match stopOf x v with
 |some s=>e=.returned (.tuple #[stopA s,.int .i64 0])
 |none=>∃ k:Int,k≠0∧e=.returned (.tuple #[stopA stop0,.int .i64 k]))∧Below w.heap.size w w'
theorem StopE.no {x:InsV} {v:Int × Bool} {w w':World} {k:Int} (h:stopOf x v=none) (hk:k≠0) (hb:Below w.heap.size w w'):StopE x v w (.returned (.tuple #[stopA stop0,.int .i64 k])) w':=by unfold StopE;rw [h];exact ⟨⟨k,hk,rfl⟩,hb⟩
theorem StopE.yes {x:InsV} {v:Int × Bool} {w w':World} {s:StopV} (h:stopOf x v=some s) (hb:Below w.heap.size w w'):StopE x v w (.returned (.tuple #[stopA s,.int .i64 0])) w':=by unfold StopE;rw [h];exact ⟨rfl,hb⟩
def stopR (s:StopV):Array Value:=#[.int .i64 s.place,.int .i64 s.opn,.int .i64 s.cls,.int .i64 s.serv]
theorem stopOf_e {m:InsM} {v:Int × Bool} (h0:0≤v.1) (h1:v.1.toNat<m.ords.length):stopOf m.v v=if (if v.2 then m.ords[v.1.toNat].o.drop else m.ords[v.1.toNat].o.pick).place<0 then none else some (if v.2 then m.ords[v.1.toNat].o.drop else m.ords[v.1.toNat].o.pick):=by
 unfold stopOf
 rw [if_neg (by omega)]
 have:m.v.ords[v.1.toNat]? = some m.ords[v.1.toNat].o:=by
  show (m.ords.map (·.o))[v.1.toNat]? = _
  rw [List.getElem?_map,List.getElem?_eq_getElem h1];rfl
 rw [this]
theorem stopOf_no {m:InsM} {v:Int × Bool} (h:(decide (0≤v.1) && decide (v.1<(m.ords.length:Int)))=false):stopOf m.v v=none:=by
 unfold stopOf
 by_cases h0:v.1<0
 ·rw [if_pos h0]
 ·rw [if_neg h0]
  rw [decide_eq_true (by omega),Bool.true_and,decide_eq_false_iff_not] at h
  have:m.v.ords[v.1.toNat]? = none:=by
   show (m.ords.map (·.o))[v.1.toNat]? = _
   rw [List.getElem?_eq_none];rw [List.length_map];omega
  rw [this]
set_option maxHeartbeats 8000000 in
set_option maxRecDepth 100000 in
theorem ostop_any (m:InsM) (v:Int × Bool) (w:World) (hc:Cells w m.oA (m.ords.flatMap OrdM.cells)) (hn:m.ords.length≤m.oc∧m.oc≤maxLen) (hl:m.ords.length≤3) (hv:fits v.1) :
  Calls Tryz.prog 71 #[.slice m.oA m.ords.length m.oc,.agg #[.int .i64 v.1,.bool v.2]] w (StopE m.v v w):=by
 have HC:=Lib.hid hc
 unfold maxLen at hn
 clear hc
 obtain ⟨k1,k2,k3⟩:=alloc2 w (.cells #[.int .i64 v.1,.bool v.2] 92) (.cells (stopR stop0) 134)
 have HB2:=Lib.hid k3
 have HK1:=Lib.hid k1
 have HK2:=Lib.hid k2
 clear k1 k2 k3
 go_enter Tryz.func71,Tryz.ntmps71
 (try simp only [B_mk])
 go_upto_region 1 with fail
 rw [show ((w.alloc (.cells #[.int .i64 v.1,.bool v.2] 92)).alloc (.cells #[.int .i64 0,.int .i64 0,.int .i64 0,.int .i64 0] 134))=((w.alloc (.cells #[.int .i64 v.1,.bool v.2] 92)).alloc (.cells (stopR stop0) 134)) from rfl]
 generalize ((w.alloc (.cells #[.int .i64 v.1,.bool v.2] 92)).alloc (.cells (stopR stop0) 134))=w2 at *
 obtain ⟨ga,hga⟩:∃ ga,ga=w.heap.size:=⟨_,rfl⟩
 obtain ⟨gb,hgb⟩:∃ gb,gb=w.heap.size+1:=⟨_,rfl⟩
 rw [← hgb] at HK2
 rw [← hgb,← hga]
 rw [← hga] at HK1
 have HGA:=Lib.hid (show w.heap.size≤gb by omega)
 clear hga hgb
 obtain ⟨c0,c1⟩:=cells2 HK1.out
 obtain ⟨y0,y1,y2,y3⟩:=cells4 HK2.out
 have z0:=frz HK2.out 0
 have z1:=frz HK2.out 1
 have z2:=frz HK2.out 2
 have z3:=frz HK2.out 3
 go_wp2_with fail
 refine (othere_any m.oA m.ords.length m.oc v.1 w2 hl).mono ?_
 rintro e w3 ⟨rfl,hw3⟩
 obtain rfl:=hw3.symm
 cases hth:(decide (0≤v.1) && decide (v.1<(m.ords.length:Int))) with
 |false =>
  have HN:=Lib.hid (stopOf_no hth)
  have HS:=Lib.hid (set4 (a:=.int .i64 0) (b:=.int .i64 0) (c:=.int .i64 0) (d:=.int .i64 0) HK2.out HB2.out HGA.out)
  clear hth
  go_wp2_with fail
  refine bodyPost_ret (res_row rfl (ld_stp HS.out.1) rfl rfl) rfl ?_
  exact StopE.no HN.out (by decide) HS.out.2
 |true =>
  obtain ⟨h1,h2⟩:=Bool.and_eq_true_iff.1 hth
  rw [decide_eq_true_eq] at h1 h2
  clear hth
  obtain ⟨i,hi⟩:∃ i:Nat,v.1=(i:Int):=⟨v.1.toNat,by omega⟩
  have hlt:i<m.ords.length:=by omega
  have hit:v.1.toNat=i:=by omega
  have HSO:=Lib.hid (stopOf_e (m:=m) h1 (by omega))
  simp only [hit] at HSO
  obtain ⟨g1,o1,hA1,hg1,hx1⟩:=elemsP OrdM.cells_len (by decide) HC.out (by omega)
  have hx:=fun j u h=>(HB2.out.cell (p:=⟨g1,o1+i*16+j,none⟩) hg1).trans (hx1 i hlt j u h)
  generalize m.ords[i]=om at *
  clear hx1
  rw [hi] at c0
  rw [hi,hA1]
  clear hit
  have HX:=Lib.hid hx
  clear hx y0 y1 y2 y3 z0 z1 z2 z3
  have x2:=HX.out 2 _ rfl
  have x3:=HX.out 3 _ rfl
  have x4:=HX.out 4 _ rfl
  have x5:=HX.out 5 _ rfl
  obtain ⟨n3,p3⟩:=new_at w2 (.cells (stopR om.o.pick) 134)
  have HN3:=Lib.hid n3
  have HX3:=Lib.hid (fun j u (h:om.cells[j]? = some u)=>(n3.cell (p:=⟨g1,o1+i*16+j,none⟩) (Nat.lt_of_lt_of_le hg1 HB2.out.size)).trans (HX.out j u h))
  have HC3:=Lib.hid (show (w2.alloc (.cells (stopR om.o.pick) 134)).heap[ga]? = _ from row_keep HK1.out n3)
  clear n3
  go_upto_region 4 with fail
  rw [show w2.alloc (.cells #[.int .i64 om.o.pick.place,.int .i64 om.o.pick.opn,.int .i64 om.o.pick.cls,.int .i64 om.o.pick.serv] 134)=w2.alloc (.cells (stopR om.o.pick) 134) from rfl]
  generalize w2.alloc (.cells (stopR om.o.pick) 134)=w3 at *
  obtain ⟨gc,hgc⟩:∃ gc,gc=w2.heap.size:=⟨_,rfl⟩
  rw [← hgc] at p3
  rw [← hgc]
  have HGC:=Lib.hid hgc
  clear x2 x3 x4 x5 HX hgc
  obtain ⟨d0,d1⟩:=cells2 HC3.out
  rw [hi] at d0
  have HP3:=Lib.hid p3
  obtain ⟨e0,e1,e2,e3⟩:=cells4 p3
  clear c0 c1 p3
  cases hb:v.2 with
  |false =>
   rw [hb] at d1
   have hso:stopOf m.v v=if om.o.pick.place<0 then none else some om.o.pick:=by have:=HSO.out;rw [hb] at this;exact this
   have HSO:=Lib.hid hso
   clear hso hb
   generalize om.o.pick=s at *
   have HSO2:=Lib.hid HSO.out
   clear HSO
   by_cases hpl:s.place<0
   ·have HN:=Lib.hid (show stopOf m.v v=none by rw [HSO2.out,if_pos hpl])
    have HS:=Lib.hid (set4 (a:=.int .i64 0) (b:=.int .i64 0) (c:=.int .i64 0) (d:=.int .i64 0) (row_keep HK2.out HN3.out) (below_lift HB2.out HN3.out) HGA.out)
    have z0:=frz (row_keep HK2.out HN3.out) 0
    have z1:=frz (row_keep HK2.out HN3.out) 1
    have z2:=frz (row_keep HK2.out HN3.out) 2
    have z3:=frz (row_keep HK2.out HN3.out) 3
    obtain ⟨y0,y1,y2,y3⟩:=cells4 (row_keep HK2.out HN3.out)
    clear HSO2
    go_wp2_with fail
    refine bodyPost_ret (res_row rfl (ld_stp HS.out.1) rfl rfl) rfl ?_
    exact StopE.no HN.out (by decide) HS.out.2
   ·have HN:=Lib.hid (show stopOf m.v v=some s by rw [HSO2.out,if_neg hpl])
    have HS:=Lib.hid (set4 (a:=.int .i64 s.place) (b:=.int .i64 s.opn) (c:=.int .i64 s.cls) (d:=.int .i64 s.serv) (row_keep HK2.out HN3.out) (below_lift HB2.out HN3.out) HGA.out)
    have z0:=frz (row_keep HK2.out HN3.out) 0
    have z1:=frz (row_keep HK2.out HN3.out) 1
    have z2:=frz (row_keep HK2.out HN3.out) 2
    have z3:=frz (row_keep HK2.out HN3.out) 3
    obtain ⟨y0,y1,y2,y3⟩:=cells4 (row_keep HK2.out HN3.out)
    clear HSO2
    go_wp2_with fail
    refine bodyPost_ret (res_row rfl (ld_stp HS.out.1) rfl rfl) rfl ?_
    exact StopE.yes HN.out HS.out.2
  |true =>
   rw [hb] at d1
   have hso:stopOf m.v v=if om.o.drop.place<0 then none else some om.o.drop:=by have:=HSO.out;rw [hb] at this;exact this
   have HSO:=Lib.hid hso
   clear hso hb
   have x6:=HX3.out 6 _ rfl
   have x7:=HX3.out 7 _ rfl
   have x8:=HX3.out 8 _ rfl
   have x9:=HX3.out 9 _ rfl
   have f0:=frz HP3.out 0
   have f1:=frz HP3.out 1
   have f2:=frz HP3.out 2
   have f3:=frz HP3.out 3
   have HS4:=Lib.hid (set4 (a:=.int .i64 om.o.drop.place) (b:=.int .i64 om.o.drop.opn) (c:=.int .i64 om.o.drop.cls) (d:=.int .i64 om.o.drop.serv) HP3.out HN3.out (by rw [HGC.out];exact Nat.le_refl _))
   go_upto_region 6 with fail
   clear x6 x7 x8 x9 f0 f1 f2 f3 e0 e1 e2 e3 d0 d1
   generalize om.o.drop=s at *
   generalize (((w3.setCell ⟨gc,0,none⟩ (.int .i64 s.place)).setCell ⟨gc,1,none⟩ (.int .i64 s.opn)).setCell ⟨gc,2,none⟩ (.int .i64 s.cls)).setCell ⟨gc,3,none⟩ (.int .i64 s.serv)=w4 at *
   obtain ⟨e0,e1,e2,e3⟩:=cells4 HS4.out.1
   have HSO2:=Lib.hid HSO.out
   clear HSO
   by_cases hpl:s.place<0
   ·have HN:=Lib.hid (show stopOf m.v v=none by rw [HSO2.out,if_pos hpl])
    have HS:=Lib.hid (set4 (a:=.int .i64 0) (b:=.int .i64 0) (c:=.int .i64 0) (d:=.int .i64 0) (row_keep HK2.out HS4.out.2) (below_lift HB2.out HS4.out.2) HGA.out)
    have z0:=frz (row_keep HK2.out HS4.out.2) 0
    have z1:=frz (row_keep HK2.out HS4.out.2) 1
    have z2:=frz (row_keep HK2.out HS4.out.2) 2
    have z3:=frz (row_keep HK2.out HS4.out.2) 3
    obtain ⟨y0,y1,y2,y3⟩:=cells4 (row_keep HK2.out HS4.out.2)
    clear HSO2
    go_wp2_with fail
    refine bodyPost_ret (res_row rfl (ld_stp HS.out.1) rfl rfl) rfl ?_
    exact StopE.no HN.out (by decide) HS.out.2
   ·have HN:=Lib.hid (show stopOf m.v v=some s by rw [HSO2.out,if_neg hpl])
    have HS:=Lib.hid (set4 (a:=.int .i64 s.place) (b:=.int .i64 s.opn) (c:=.int .i64 s.cls) (d:=.int .i64 s.serv) (row_keep HK2.out HS4.out.2) (below_lift HB2.out HS4.out.2) HGA.out)
    have z0:=frz (row_keep HK2.out HS4.out.2) 0
    have z1:=frz (row_keep HK2.out HS4.out.2) 1
    have z2:=frz (row_keep HK2.out HS4.out.2) 2
    have z3:=frz (row_keep HK2.out HS4.out.2) 3
    obtain ⟨y0,y1,y2,y3⟩:=cells4 (row_keep HK2.out HS4.out.2)
    clear HSO2
    go_wp2_with fail
    refine bodyPost_ret (res_row rfl (ld_stp HS.out.1) rfl rfl) rfl ?_
    exact StopE.yes HN.out HS.out.2
theorem lab0_sh (q:TripM):labA none 0 (lab0 q.v)=.agg #[.int .i64 (max q.t.t.opn q.r.r.start),.int .i64 0,.bool false,.int .i64 0,.slice none 0 0,.int .i64 0,.int .i64 0]:=rfl
set_option maxHeartbeats 4000000 in
set_option maxRecDepth 100000 in
theorem dbegin_any (q:TripM) (w:World):Calls Tryz.prog 68 #[tripA q] w fun e w'=>e=.returned (labA none 0 (lab0 q.v))∧Below w.heap.size w w':=by
 rw [lab0_sh]
 obtain ⟨k1,k2,k3⟩:=alloc2 w (.cells (tripR q) 84) (.cells #[.int .i64 (max q.t.t.opn q.r.r.start),.int .i64 0,.bool false,.int .i64 0,.slice none 0 0,.int .i64 0,.int .i64 0] 150)
 have HB:=Lib.hid k3
 have HK2:=Lib.hid k2
 clear k1 k2 k3
 obtain ⟨n4,p4⟩:=new_at w (.cells (tripR q) 84)
 have r13:=cellsX p4 13 (.int .i64 q.t.t.opn) rfl
 have r21:=cellsX p4 21 (.int .i64 q.r.r.start) rfl
 clear n4 p4
 go_enter Tryz.func68,Tryz.ntmps68
 go_wp2_with fail
 refine bodyPost_ret (res_row1 rfl (ld_lab HK2.out) rfl) rfl ?_
 exact ⟨rfl,HB.out⟩
theorem placeP_0 (q:TripM):placeP q.v 0=q.t.t.frm:=rfl
theorem placeP_s (q:TripM) {k:Nat} (hk:k<q.stops.length):placeP q.v (k+1)=q.stops[k].place:=by
 unfold placeP
 rw [if_neg (by omega),Nat.add_sub_cancel]
 show (match q.stops[k]? with | some s=>s.place | none=>0)=_
 rw [List.getElem?_eq_getElem hk]
theorem stopC_get (s:StopV):(stopC s)[0]? = some (.int .i64 s.place)∧(stopC s)[1]? = some (.int .i64 s.opn)∧(stopC s)[2]? = some (.int .i64 s.cls)∧(stopC s)[3]? = some (.int .i64 s.serv):=⟨rfl,rfl,rfl,rfl⟩
set_option maxHeartbeats 4000000 in
set_option maxRecDepth 100000 in
theorem dplace_any (q:TripM) (k:Nat) (w:World) (hc:Cells w q.A (q.stops.flatMap stopC)) (hs:q.stops.length≤q.c∧q.c≤maxLen) (hk:k≤q.stops.length):Calls Tryz.prog 127 #[tripA q,.int .i64 k] w fun e w'=>e=.returned (.int .i64 (placeP q.v k))∧Below w.heap.size w w':=by
 unfold maxLen at hs
 obtain ⟨n4,p4⟩:=new_at w (.cells (tripR q) 84)
 have HN:=Lib.hid n4
 have r8:=cellsX p4 8 (.int .i64 q.t.t.frm) rfl
 have r24:=cellsX p4 24 (.slice q.A q.stops.length q.c) rfl
 cases k with
 |zero =>
  rw [placeP_0]
  clear n4 p4 hc
  go_enter Tryz.func127,Tryz.ntmps127
  go_wp2_with fail
  go_ret
  exact ⟨rfl,HN.out⟩
 |succ k =>
  have hlt:k<q.stops.length:=by omega
  rw [placeP_s q hlt]
  obtain ⟨g1,o1,hA1,hg1,hx1⟩:=elemsP stopC_len (by decide) hc (by omega)
  have x0:=(n4.cell (p:=⟨g1,o1+k*4+0,none⟩) hg1).trans (hx1 k hlt 0 _ rfl)
  rw [Nat.add_zero] at x0
  have hkk:(((k+1:Nat):Int)) - 1=(k:Int):=by omega
  have hk1:¬ ((k+1:Nat):Int)=0:=by omega
  have hk2:(((k+1:Nat):Int) == 0)=false:=int_bf hk1
  have hlt1:(k:Int)<(q.stops.length:Int):=by omega
  generalize ((k+1:Nat):Int)=kk at *
  rw [hA1] at r24
  clear n4 p4 hc hx1 hk1 hA1
  generalize q.stops[k]=s at *
  go_enter Tryz.func127,Tryz.ntmps127
  go_upto_region 1 with fail
  rw [show w.alloc (.cells #[.slice q.m.pA q.m.places.length q.m.pc,.slice q.m.aA q.m.arcs.length q.m.ac,.slice q.m.tA q.m.types.length q.m.tc,.slice q.m.oA q.m.ords.length q.m.oc,.slice q.m.xA q.m.apart.length q.m.xc,.slice q.m.bA q.m.before.length q.m.bc,.string (B q.t.t.name),.int .i64 q.t.t.count,.int .i64 q.t.t.frm,.int .i64 q.t.t.tgt,.slice q.t.A q.t.t.cap.length q.t.ca,.int .i64 q.t.t.skills,.int .i64 q.t.t.prof,.int .i64 q.t.t.opn,.int .i64 q.t.t.cls,.int .i64 q.t.t.drive,.int .i64 q.t.t.rest,.int .i64 q.t.t.fixed,.int .i64 q.t.t.mile,.int .i64 q.t.t.tick,.int .i64 q.r.r.kind,.int .i64 q.r.r.start,.slice q.r.A q.r.r.rests.length q.r.ca,.slice q.r.C q.r.r.vis.length q.r.cc,.slice q.A q.stops.length q.c] 84)=w.alloc (.cells (tripR q) 84) from rfl]
  generalize w.alloc (.cells (tripR q) 84)=w4 at *
  go_wp2_with fail
  go_ret
  exact ⟨rfl,HN.out⟩
end Go.Proofs.YtjcekdiocliddaaGreatDoor

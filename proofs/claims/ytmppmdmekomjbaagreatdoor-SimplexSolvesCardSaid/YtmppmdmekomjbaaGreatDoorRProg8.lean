/- ratio: Add, Sub. (Printed by wip/rprog8.py.) -/
import Derived.Test.YtmppmdmekomjbaaGreatDoorG48
namespace Go.Proofs.YtmppmdmekomjbaaGreatDoor
open Go.RowKit Num
set_option linter.unusedVariables false
attribute [local go_sem] B_size B_get B_toList B_mk B_extract B_append
attribute [local go_sem high] run_max2
theorem one_in {w:World} {x y:Value} {t:TypeId}:∀ (i:Nat) (z:Value),#[x,y][i]? = some z→(w.alloc (.cells #[x,y] t)).cell? ⟨w.heap.size,i,none⟩=some z:=by
 intro i z h
 rw [show (w.alloc (.cells #[x,y] t)).cell? ⟨w.heap.size,i,none⟩=#[x,y][i]? by
  have e:(w.alloc (.cells #[x,y] t)).heap[w.heap.size]? = some (.cells #[x,y] t):=by
   show (w.heap.push (.cells #[x,y] t))[w.heap.size]? = _
   simp
  unfold World.cell?;simp only [e];rfl]
 exact h
theorem qprod1_any (x y:Int) (t:TypeId) (w:World) (hx:dl x≤4096) (hy:dl y≤4096) (ht:Tab w) :
  Calls Tryz.prog 141 #[.slice (some ⟨w.heap.size,0,none⟩) 1 1] (w.alloc (.cells #[.string (B (decI x)),.string (B (decI y))] t)) fun e w'=>Below w.heap.size w w'∧∃ r er,e=.returned (.tuple #[r,.int .i64 er]) ∧
   ((dl (x*y)≤4096∧er=0∧∃ g c,r=.slice (some ⟨g,0,none⟩) 1 c∧1≤c∧c≤maxLen∧g<w'.heap.size∧w'.cell? ⟨g,0,none⟩=some (.string (B (decI (x*y))))) ∨
    (¬ dl (x*y)≤4096∧er=4∧r=.slice none 0 0)):=by
 have b1:Below w.heap.size w (w.alloc (.cells #[.string (B (decI x)),.string (B (decI y))] t)):=(Below.refl _ _).alloc (Nat.le_refl _) _
 have h:=qprod_any [(x,y)] w.heap.size 1 (w.alloc (.cells #[.string (B (decI x)),.string (B (decI y))] t)) (by simp) ⟨by simp,by unfold maxLen;omega⟩ (by simp) (ht.below b1)
  (by intro k hk;match k,hk with
   | 0,_=>exact ⟨hx,hy⟩)
  (by intro k hk;match k,hk with
   | 0,_=>exact ⟨one_in 0 _ rfl,one_in 1 _ rfl⟩)
 refine h.mono ?_
 rintro e w' ⟨hb,r,er,rfl,hc⟩
 refine ⟨b1.trans (hb.mono b1.size),r,er,rfl,?_⟩
 rcases hc with ⟨ha,rfl,A,c,rfl,hown⟩ | ⟨ha,rfl,rfl⟩
 ·simp at ha
  obtain ⟨g,rfl,hg1,hg2,hgc,hgf⟩:=hown.at_ (by simp)
  have hcap:=hown.cap
  exact .inl ⟨ha,rfl,g,c,rfl,hcap.1,hcap.2,hg2,hgc 0 (by simp)⟩
 ·refine .inr ⟨?_,rfl,rfl⟩
  intro h1
  simp [h1] at ha
theorem paddq_any (x y:Int) (w:World) (hx:dl x≤4096) (hy:dl y≤4096) (ht:Tab w) :
  Calls Tryz.prog 146 #[.string (B (decI x)),.string (B (decI y))] w fun e w'=>e=.returned (.tuple #[.string (B (resIS (x+y))),.int .i64 (resIE (x+y))])∧Below w.heap.size w w':=by
 have h1:=dl_len x
 have h2:=dl_len y
 have h:=padd_any (decI x) (decI y) w (by omega) (by omega) ht
 have he:=errI_dec (x:=x) (y:=y) hx hy
 have e1:addIS (decI x) (decI y)=resIS (x+y):=by unfold addIS;rw [if_pos he,valI_decI,valI_decI]
 have e2:addIE (decI x) (decI y)=resIE (x+y):=by unfold addIE;rw [if_pos he,valI_decI,valI_decI]
 rw [e1,e2] at h;exact h
set_option maxHeartbeats 2000000 in
set_option maxRecDepth 100000 in
theorem qcombadd_any (a b:List UInt8) (w:World) (ha:a.length≤1000000) (hb:b.length≤1000000) (he:Env w) :
  Calls Tryz.prog 138 #[.string (B a),.string (B b),.func (Fn.func 146) #[] #[]] w fun e w'=>e=.returned (.tuple #[.string (B (addQS a b)),.int .i64 (addQE a b)])∧Below w.heap.size w w':=by
 have HT:=Lib.hid (qtwo_any a b w ha hb he)
 have ht:=he.1
 by_cases h0:errQ a b=0
 ·have hr:=errQ_zero.1 h0
  have pa:=rq_parts hr.1
  have pb:=rq_parts hr.2
  have HS:=Lib.hid (show ∀ s,twoS a b s=s by intro s;unfold twoS;rw [if_pos h0])
  rw [HS.out,HS.out,HS.out,HS.out,h0,pa.1,pa.2.1,pb.1,pb.2.1,← decI_nat,← decI_nat] at HT
  have HC:=Lib.hid (show addQE a b=if sumOK (qn a*qd b) (qn b*qd a) (qn a*qd b+qn b*qd a) ((qd a:Int)*qd b) then 0 else 4 by unfold addQE;rw [if_pos h0])
  have HSS:=Lib.hid (show addQS a b=if addQE a b=0 then lowS (qn a*qd b+qn b*qd a) (qd a*qd b) else [] from rfl)
  have HP:=Lib.hid (fun t w ht=>qprod2_any (qn a) (qd b) (qn b) (qd a) t w pa.2.2.2.1 (by rw [dl_nat];exact pb.2.2.2.2.1) pb.2.2.2.1 (by rw [dl_nat];exact pa.2.2.2.2.1) ht)
  have HP1:=Lib.hid (fun t w ht=>qprod1_any (qd a) (qd b) t w (by rw [dl_nat];exact pa.2.2.2.2.1) (by rw [dl_nat];exact pb.2.2.2.2.1) ht)
  have hm0:0<qd a*qd b:=Nat.mul_pos pa.2.2.1 pb.2.2.1
  have HM:=Lib.hid (show decI ((qd a:Int)*(qd b:Int))=dec (qd a*qd b) by rw [← Int.natCast_mul,decI_nat])
  have HDL:=Lib.hid (show dl ((qd a:Int)*(qd b:Int))=(dec (qd a*qd b)).length by rw [← Int.natCast_mul,dl_nat])
  clear pa pb hr h0 HS
  go_enter Tryz.func138,Tryz.ntmps138
  simp only [B_mk]
  go_wp2_with fail
  refine HT.out.mono ?_
  rintro e w1 ⟨rfl,hb1⟩
  go_wp2_with fail
  refine (HP.out _ w1 (ht.below hb1)).mono ?_
  rintro e w2 ⟨hb2,r,er,rfl,hc⟩
  have a2:=hb1.trans (hb2.mono hb1.size)
  rcases hc with ⟨h1,h2,rfl,g,c,rfl,hc1,hc2,hg,c0,c1⟩ | ⟨hno,rfl,rfl⟩
  ·have HW:=Lib.hid (fun w ht=>paddq_any (qn a*qd b) (qn b*qd a) w h1 h2 ht)
   unfold maxLen at hc2
   have hbd:Below w.heap.size w w2.drew:=below_drew a2
   have hS0:Below w.heap.size w w2.drew∧w2.drew.cell? ⟨g,0,none⟩=some (.string (B (decI (qn a*qd b))))∧w2.drew.cell? ⟨g,1,none⟩=some (.string (B (decI (qn b*qd a))))∧g<w2.drew.heap.size:=⟨hbd,c0,c1,hg⟩
   by_cases h3:dl (qn a*qd b+qn b*qd a)≤4096
   ·have hrr:=resIS_dec h3
    rw [hrr.1,hrr.2] at HW
    have H3:=Lib.hid h3
    have H12:=Lib.hid (And.intro h1 h2)
    clear h1 h2 h3 hrr
    go_wp2_with fail
    have hL:=HW.out _ (ht.below hbd)
    go_region_held3 (fun w'=>Below w.heap.size w w'∧w'.cell? ⟨g,0,none⟩=some (.string (B (decI (qn a*qd b))))∧w'.cell? ⟨g,1,none⟩=some (.string (B (decI (qn b*qd a))))∧g<w'.heap.size)
     (first | (exact keep2 (hb:=hb3) (by assumption)) | (with_reducible exact hS0))
     (first | (go_at_call 146;((with_reducible refine hL.mono ?_);rintro e w3 ⟨rfl,hb3⟩)))
    all_goals
     have a3:=hbd.trans (hb3.mono hbd.size)
     go_wp2_with fail
     refine (HP1.out _ w3 (ht.below a3)).mono ?_
     rintro e w4 ⟨hb4,r,er,rfl,hc⟩
     have a4:=a3.trans (hb4.mono a3.size)
     rcases hc with ⟨h4,rfl,g2,c2,rfl,hd1,hd2,hg2,d0⟩ | ⟨hno,rfl,rfl⟩
     ·have HE:=Lib.hid (show addQE a b=0 by rw [HC.out];exact if_pos ⟨H12.out.1,H12.out.2,H3.out,h4⟩)
      have HR:=Lib.hid (show addQS a b=lowS (qn a*qd b+qn b*qd a) (qd a*qd b) by rw [HSS.out];exact if_pos HE.out)
      rw [HM.out] at d0
      rw [HDL.out] at h4
      have HL:=Lib.hid (fun w ht=>qlowest_any (qn a*qd b+qn b*qd a) (qd a*qd b) w H3.out h4 hm0 ht)
      unfold maxLen at hd2
      clear h4
      go_wp2_with fail
      refine (HL.out _ (ht.below a4)).mono ?_
      rintro e w5 ⟨rfl,hb5⟩
      go_wp2_with fail
      go_ret2
      exact ⟨ret_si' HR.out.symm HE.out.symm,a4.trans (hb5.mono a4.size)⟩
     ·have HE:=Lib.hid (show addQE a b=4 by rw [HC.out];exact if_neg (fun h=>hno h.2.2.2))
      have HR:=Lib.hid (show addQS a b=[] by rw [HSS.out,HE.out];rfl)
      clear hno
      go_wp2_with fail
      go_ret2
      exact ⟨ret_si' HR.out.symm HE.out.symm,a4⟩
   ·have hrr:resIS (qn a*qd b+qn b*qd a)=[]∧resIE (qn a*qd b+qn b*qd a)=4:=⟨if_neg h3,if_neg h3⟩
    rw [hrr.1,hrr.2] at HW
    have HE:=Lib.hid (show addQE a b=4 by rw [HC.out];exact if_neg (fun h=>h3 h.2.2.1))
    have HR:=Lib.hid (show addQS a b=[] by rw [HSS.out,HE.out];rfl)
    clear h1 h2 h3 hrr
    go_wp2_with fail
    have hL:=HW.out _ (ht.below hbd)
    go_region_held3 (fun w'=>Below w.heap.size w w'∧w'.cell? ⟨g,0,none⟩=some (.string (B (decI (qn a*qd b))))∧w'.cell? ⟨g,1,none⟩=some (.string (B (decI (qn b*qd a))))∧g<w'.heap.size)
     (first | (exact keep2 (hb:=hb3) (by assumption)) | (with_reducible exact hS0))
     (first | (go_at_call 146;((with_reducible refine hL.mono ?_);rintro e w3 ⟨rfl,hb3⟩)))
    all_goals
     go_wp2_with fail
     go_ret2
     exact ⟨ret_si' HR.out.symm HE.out.symm,hbd.trans (hb3.mono hbd.size)⟩
  ·have HE:=Lib.hid (show addQE a b=4 by rw [HC.out];exact if_neg (fun h=>hno ⟨h.1,h.2.1⟩))
   have HR:=Lib.hid (show addQS a b=[] by rw [HSS.out,HE.out];rfl)
   clear hno
   go_wp2_with fail
   go_ret2
   exact ⟨ret_si' HR.out.symm HE.out.symm,a2⟩
 ·have h3:errQ a b=3:=by unfold errQ at h0 ⊢;by_cases h:rightQ a=true∧rightQ b=true;exact absurd (if_pos h) h0;exact if_neg h
  have HE:=Lib.hid (show addQE a b=3 by unfold addQE;rw [if_neg h0])
  have HR:=Lib.hid (show addQS a b=[] by unfold addQS;rw [HE.out];rfl)
  rw [h3] at HT
  clear h0 h3
  go_enter Tryz.func138,Tryz.ntmps138
  simp only [B_mk]
  go_wp2_with fail
  refine HT.out.mono ?_
  rintro e w1 ⟨rfl,hb1⟩
  go_wp2_with fail
  go_ret2
  exact ⟨ret_si' HR.out.symm HE.out.symm,hb1⟩
theorem qadd_any (a b:List UInt8) (w:World) (ha:a.length≤1000000) (hb:b.length≤1000000) (he:Env w) :
  Calls Tryz.prog 111 #[.string (B a),.string (B b)] w fun e w'=>e=.returned (.tuple #[.string (B (addQS a b)),.int .i64 (addQE a b)])∧Below w.heap.size w w':=by
 go_enter Tryz.func111,Tryz.ntmps111
 go_wp2_with fail
 refine (qcombadd_any a b w ha hb he).mono ?_
 rintro e w1 ⟨rfl,hb1⟩
 go_wp2_with fail
 go_ret2
 exact ⟨rfl,hb1⟩
theorem psubq_any (x y:Int) (w:World) (hx:dl x≤4096) (hy:dl y≤4096) (ht:Tab w) :
  Calls Tryz.prog 139 #[.string (B (decI x)),.string (B (decI y))] w fun e w'=>e=.returned (.tuple #[.string (B (resIS (x - y))),.int .i64 (resIE (x - y))])∧Below w.heap.size w w':=by
 have h1:=dl_len x
 have h2:=dl_len y
 have h:=psub_any (decI x) (decI y) w (by omega) (by omega) ht
 have he:=errI_dec (x:=x) (y:=y) hx hy
 have e1:subIS (decI x) (decI y)=resIS (x - y):=by unfold subIS;rw [if_pos he,valI_decI,valI_decI]
 have e2:subIE (decI x) (decI y)=resIE (x - y):=by unfold subIE;rw [if_pos he,valI_decI,valI_decI]
 rw [e1,e2] at h;exact h
set_option maxHeartbeats 2000000 in
set_option maxRecDepth 100000 in
theorem qcombsub_any (a b:List UInt8) (w:World) (ha:a.length≤1000000) (hb:b.length≤1000000) (he:Env w) :
  Calls Tryz.prog 138 #[.string (B a),.string (B b),.func (Fn.func 139) #[] #[]] w fun e w'=>e=.returned (.tuple #[.string (B (subQS a b)),.int .i64 (subQE a b)])∧Below w.heap.size w w':=by
 have HT:=Lib.hid (qtwo_any a b w ha hb he)
 have ht:=he.1
 by_cases h0:errQ a b=0
 ·have hr:=errQ_zero.1 h0
  have pa:=rq_parts hr.1
  have pb:=rq_parts hr.2
  have HS:=Lib.hid (show ∀ s,twoS a b s=s by intro s;unfold twoS;rw [if_pos h0])
  rw [HS.out,HS.out,HS.out,HS.out,h0,pa.1,pa.2.1,pb.1,pb.2.1,← decI_nat,← decI_nat] at HT
  have HC:=Lib.hid (show subQE a b=if sumOK (qn a*qd b) (qn b*qd a) (qn a*qd b - qn b*qd a) ((qd a:Int)*qd b) then 0 else 4 by unfold subQE;rw [if_pos h0])
  have HSS:=Lib.hid (show subQS a b=if subQE a b=0 then lowS (qn a*qd b - qn b*qd a) (qd a*qd b) else [] from rfl)
  have HP:=Lib.hid (fun t w ht=>qprod2_any (qn a) (qd b) (qn b) (qd a) t w pa.2.2.2.1 (by rw [dl_nat];exact pb.2.2.2.2.1) pb.2.2.2.1 (by rw [dl_nat];exact pa.2.2.2.2.1) ht)
  have HP1:=Lib.hid (fun t w ht=>qprod1_any (qd a) (qd b) t w (by rw [dl_nat];exact pa.2.2.2.2.1) (by rw [dl_nat];exact pb.2.2.2.2.1) ht)
  have hm0:0<qd a*qd b:=Nat.mul_pos pa.2.2.1 pb.2.2.1
  have HM:=Lib.hid (show decI ((qd a:Int)*(qd b:Int))=dec (qd a*qd b) by rw [← Int.natCast_mul,decI_nat])
  have HDL:=Lib.hid (show dl ((qd a:Int)*(qd b:Int))=(dec (qd a*qd b)).length by rw [← Int.natCast_mul,dl_nat])
  clear pa pb hr h0 HS
  go_enter Tryz.func138,Tryz.ntmps138
  simp only [B_mk]
  go_wp2_with fail
  refine HT.out.mono ?_
  rintro e w1 ⟨rfl,hb1⟩
  go_wp2_with fail
  refine (HP.out _ w1 (ht.below hb1)).mono ?_
  rintro e w2 ⟨hb2,r,er,rfl,hc⟩
  have a2:=hb1.trans (hb2.mono hb1.size)
  rcases hc with ⟨h1,h2,rfl,g,c,rfl,hc1,hc2,hg,c0,c1⟩ | ⟨hno,rfl,rfl⟩
  ·have HW:=Lib.hid (fun w ht=>psubq_any (qn a*qd b) (qn b*qd a) w h1 h2 ht)
   unfold maxLen at hc2
   have hbd:Below w.heap.size w w2.drew:=below_drew a2
   have hS0:Below w.heap.size w w2.drew∧w2.drew.cell? ⟨g,0,none⟩=some (.string (B (decI (qn a*qd b))))∧w2.drew.cell? ⟨g,1,none⟩=some (.string (B (decI (qn b*qd a))))∧g<w2.drew.heap.size:=⟨hbd,c0,c1,hg⟩
   by_cases h3:dl (qn a*qd b - qn b*qd a)≤4096
   ·have hrr:=resIS_dec h3
    rw [hrr.1,hrr.2] at HW
    have H3:=Lib.hid h3
    have H12:=Lib.hid (And.intro h1 h2)
    clear h1 h2 h3 hrr
    go_wp2_with fail
    have hL:=HW.out _ (ht.below hbd)
    go_region_held3 (fun w'=>Below w.heap.size w w'∧w'.cell? ⟨g,0,none⟩=some (.string (B (decI (qn a*qd b))))∧w'.cell? ⟨g,1,none⟩=some (.string (B (decI (qn b*qd a))))∧g<w'.heap.size)
     (first | (exact keep2 (hb:=hb3) (by assumption)) | (with_reducible exact hS0))
     (first | (go_at_call 139;((with_reducible refine hL.mono ?_);rintro e w3 ⟨rfl,hb3⟩)))
    all_goals
     have a3:=hbd.trans (hb3.mono hbd.size)
     go_wp2_with fail
     refine (HP1.out _ w3 (ht.below a3)).mono ?_
     rintro e w4 ⟨hb4,r,er,rfl,hc⟩
     have a4:=a3.trans (hb4.mono a3.size)
     rcases hc with ⟨h4,rfl,g2,c2,rfl,hd1,hd2,hg2,d0⟩ | ⟨hno,rfl,rfl⟩
     ·have HE:=Lib.hid (show subQE a b=0 by rw [HC.out];exact if_pos ⟨H12.out.1,H12.out.2,H3.out,h4⟩)
      have HR:=Lib.hid (show subQS a b=lowS (qn a*qd b - qn b*qd a) (qd a*qd b) by rw [HSS.out];exact if_pos HE.out)
      rw [HM.out] at d0
      rw [HDL.out] at h4
      have HL:=Lib.hid (fun w ht=>qlowest_any (qn a*qd b - qn b*qd a) (qd a*qd b) w H3.out h4 hm0 ht)
      unfold maxLen at hd2
      clear h4
      go_wp2_with fail
      refine (HL.out _ (ht.below a4)).mono ?_
      rintro e w5 ⟨rfl,hb5⟩
      go_wp2_with fail
      go_ret2
      exact ⟨ret_si' HR.out.symm HE.out.symm,a4.trans (hb5.mono a4.size)⟩
     ·have HE:=Lib.hid (show subQE a b=4 by rw [HC.out];exact if_neg (fun h=>hno h.2.2.2))
      have HR:=Lib.hid (show subQS a b=[] by rw [HSS.out,HE.out];rfl)
      clear hno
      go_wp2_with fail
      go_ret2
      exact ⟨ret_si' HR.out.symm HE.out.symm,a4⟩
   ·have hrr:resIS (qn a*qd b - qn b*qd a)=[]∧resIE (qn a*qd b - qn b*qd a)=4:=⟨if_neg h3,if_neg h3⟩
    rw [hrr.1,hrr.2] at HW
    have HE:=Lib.hid (show subQE a b=4 by rw [HC.out];exact if_neg (fun h=>h3 h.2.2.1))
    have HR:=Lib.hid (show subQS a b=[] by rw [HSS.out,HE.out];rfl)
    clear h1 h2 h3 hrr
    go_wp2_with fail
    have hL:=HW.out _ (ht.below hbd)
    go_region_held3 (fun w'=>Below w.heap.size w w'∧w'.cell? ⟨g,0,none⟩=some (.string (B (decI (qn a*qd b))))∧w'.cell? ⟨g,1,none⟩=some (.string (B (decI (qn b*qd a))))∧g<w'.heap.size)
     (first | (exact keep2 (hb:=hb3) (by assumption)) | (with_reducible exact hS0))
     (first | (go_at_call 139;((with_reducible refine hL.mono ?_);rintro e w3 ⟨rfl,hb3⟩)))
    all_goals
     go_wp2_with fail
     go_ret2
     exact ⟨ret_si' HR.out.symm HE.out.symm,hbd.trans (hb3.mono hbd.size)⟩
  ·have HE:=Lib.hid (show subQE a b=4 by rw [HC.out];exact if_neg (fun h=>hno ⟨h.1,h.2.1⟩))
   have HR:=Lib.hid (show subQS a b=[] by rw [HSS.out,HE.out];rfl)
   clear hno
   go_wp2_with fail
   go_ret2
   exact ⟨ret_si' HR.out.symm HE.out.symm,a2⟩
 ·have h3:errQ a b=3:=by unfold errQ at h0 ⊢;by_cases h:rightQ a=true∧rightQ b=true;exact absurd (if_pos h) h0;exact if_neg h
  have HE:=Lib.hid (show subQE a b=3 by unfold subQE;rw [if_neg h0])
  have HR:=Lib.hid (show subQS a b=[] by unfold subQS;rw [HE.out];rfl)
  rw [h3] at HT
  clear h0 h3
  go_enter Tryz.func138,Tryz.ntmps138
  simp only [B_mk]
  go_wp2_with fail
  refine HT.out.mono ?_
  rintro e w1 ⟨rfl,hb1⟩
  go_wp2_with fail
  go_ret2
  exact ⟨ret_si' HR.out.symm HE.out.symm,hb1⟩
theorem qsub_any (a b:List UInt8) (w:World) (ha:a.length≤1000000) (hb:b.length≤1000000) (he:Env w) :
  Calls Tryz.prog 105 #[.string (B a),.string (B b)] w fun e w'=>e=.returned (.tuple #[.string (B (subQS a b)),.int .i64 (subQE a b)])∧Below w.heap.size w w':=by
 go_enter Tryz.func105,Tryz.ntmps105
 go_wp2_with fail
 refine (qcombsub_any a b w ha hb he).mono ?_
 rintro e w1 ⟨rfl,hb1⟩
 go_wp2_with fail
 go_ret2
 exact ⟨rfl,hb1⟩
end Go.Proofs.YtmppmdmekomjbaaGreatDoor

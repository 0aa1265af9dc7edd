/- ratio: Sign, Floor, Ceil, Compare. (Printed by wip/rprog4.py.) -/
import Derived.Test.YtjcekdiocliddaaGreatDoorG47
import Derived.Test.YtjcekdiocliddaaGreatDoorG46
import Derived.Test.YtjcekdiocliddaaGreatDoorG12
import Derived.Test.YtjcekdiocliddaaGreatDoorG82
namespace Go.Proofs.YtjcekdiocliddaaGreatDoor
open Go.RowKit Num
set_option linter.unusedVariables false
attribute [local go_sem] B_size B_get B_toList B_mk B_extract B_append
attribute [local go_sem high] run_max2
theorem padd1_any (x:Int) (w:World) (hx:dl x≤4096) (hz:dl (x+1)≤4096) (ht:Tab w) :
  Calls Tryz.prog 52 #[.string (B (decI x)),.string (B [49])] w fun e w'=>e=.returned (.tuple #[.string (B (decI (x+1))),.int .i64 0])∧Below w.heap.size w w':=by
 have h1:=dl_len x
 rw [show ([49]:Str)=decI 1 from by rw [show (1:Int)=((1:Nat):Int) from rfl,decI_nat,dec_one]]
 have h2:=dl_len 1
 have h3:=dl_one
 have h:=padd_any (decI x) (decI 1) w (by omega) (by omega) ht
 have he:=errI_dec (x:=x) (y:=1) (by omega) (by omega)
 have hr:=resIS_dec (z:=x+1) hz
 have e1:addIS (decI x) (decI 1)=decI (x+1):=by unfold addIS;rw [if_pos he,valI_decI,valI_decI,hr.1]
 have e2:addIE (decI x) (decI 1)=0:=by unfold addIE;rw [if_pos he,valI_decI,valI_decI,hr.2]
 rw [e1,e2] at h;exact h
theorem ceil_same {p q:Int} (hq:0<q) (h:p % q=0):-(-p / q)=p / q:=by
 have h1:=Int.mul_ediv_add_emod p q
 rw [h,Int.add_zero] at h1
 rw [← h1,← Int.mul_neg,Int.mul_ediv_cancel_left _ (by omega),Int.mul_ediv_cancel_left _ (by omega)];omega
theorem ceil_next {p q:Int} (hq:0<q) (h:p % q≠0):-(-p / q)=p / q+1:=by
 have h1:=Int.mul_ediv_add_emod p q
 have h2:=Int.emod_nonneg p (show q≠0 by omega)
 have h3:=Int.emod_lt_of_pos p hq
 have e:-p=q - p % q+q*(-(p / q) - 1):=by rw [Int.mul_sub,Int.mul_neg];omega
 rw [e,Int.add_mul_ediv_left _ _ (by omega:q≠0),Int.ediv_eq_zero_of_lt (by omega) (by omega)];omega
theorem ceil_small {p q:Int} (hq:0<q) (h:p % q≠0):(p / q+1).natAbs≤p.natAbs:=by
 have h1:=Int.mul_ediv_add_emod p q
 have h2:=Int.emod_nonneg p (show q≠0 by omega)
 have h3:=Int.emod_lt_of_pos p hq
 generalize p / q=n at *
 generalize p % q=r at *
 have hq2:2≤q:=by omega
 by_cases hn:n<0
 ·have:q*(-n) ≥ 2*(-n):=Int.mul_le_mul_of_nonneg_right hq2 (by omega)
  rw [Int.mul_neg] at this
  have h5:q*n+q≤n+1∨True:=.inr trivial
  have h6:(q - 1)*(-n - 1) ≥ 0:=Int.mul_nonneg (by omega) (by omega)
  have h7:(q - 1)*(-n - 1) = -(q*n) - q+n+1:=by grind
  omega
 ·have:q*n ≥ 2*n:=Int.mul_le_mul_of_nonneg_right hq2 (by omega)
  omega
def strVal:Value→Nat
 |.string b=>val b.data.toList
 |_=>0
theorem strVal_B (l:Str):strVal (.string (B l))=val l:=by simp [strVal,B]
theorem cmp_dec {x y:Int}:cmpIS (decI x) (decI y)=ordI x y:=by unfold cmpIS;rw [if_pos ⟨rightI_decI _,rightI_decI _⟩,valI_decI,valI_decI]
theorem ecmp_step {x z:Int} {y v:Nat} (hy:0<y) (hv:0<v) (h:x / (y:Int)=z / (v:Int)):ordI (x*v) (z*y)=ordI (x % (y:Int)*v) (z % (v:Int)*y):=eu_same (by omega) (by omega) h
theorem pmulq_any (x y:Int) (w:World) (hx:dl x≤4096) (hy:dl y≤4096) (ht:Tab w) :
  Calls Tryz.prog 151 #[.string (B (decI x)),.string (B (decI y))] w fun e w'=>e=.returned (.tuple #[.string (B (resIS (x*y))),.int .i64 (resIE (x*y))])∧Below w.heap.size w w':=by
 have h1:=dl_len x
 have h2:=dl_len y
 have h:=pmul_any (decI x) (decI y) w (by omega) (by omega) ht
 have he:=errI_dec (x:=x) (y:=y) hx hy
 have e1:mulIS (decI x) (decI y)=resIS (x*y):=by unfold mulIS;rw [if_pos he,valI_decI,valI_decI]
 have e2:mulIE (decI x) (decI y)=resIE (x*y):=by unfold mulIE;rw [if_pos he,valI_decI,valI_decI]
 rw [e1,e2] at h;exact h
def prods (ps:List (Int × Int)):List Str:=ps.map fun p=>decI (p.1*p.2)
set_option maxRecDepth 100000 in
theorem qprod_any (ps:List (Int × Int)) (bk c:Nat) (w:World) (hn:ps.length≤2) (hc:ps.length≤c∧c≤maxLen) (hb:bk<w.heap.size) (ht:Tab w)
  (hs:∀ k,k<ps.length→dl (ps.getD k (0,0)).1≤4096∧dl (ps.getD k (0,0)).2≤4096)
  (hx:∀ k,k<ps.length→w.cell? ⟨bk,k*2,none⟩=some (.string (B (decI (ps.getD k (0,0)).1)))∧w.cell? ⟨bk,k*2+1,none⟩=some (.string (B (decI (ps.getD k (0,0)).2)))) :
  Calls Tryz.prog 106 #[.slice (some ⟨bk,0,none⟩) ps.length c] w fun e w'=>Below w.heap.size w w'∧∃ v er,e=.returned (.tuple #[v,.int .i64 er]) ∧
   ((ps.all (fun p=>decide (dl (p.1*p.2)≤4096))=true∧er=0∧∃ A c,v=.slice A ps.length c∧OwnS w' w.heap.size 9 A ps.length c (strs (prods ps))) ∨
    (ps.all (fun p=>decide (dl (p.1*p.2)≤4096))=false∧er=4∧v=.slice none 0 0)):=by
 unfold maxLen at hc
 have HX:=Lib.hid hx
 have HS:=Lib.hid hs
 clear hx hs
 go_enter Tryz.func106,Tryz.ntmps106
 go_wp2_with (refine wp_mk0 el_string rfl _ _ rfl w.heap.size _ .i64 .i64 _ ps.length rfl rfl rfl (by omega) (by unfold maxLen;omega) (Nat.le_refl _) ?_;intro A0 w0 hown0 hb0)
 go_loopw [4,6,7,8,14] (fun v x n e i wr=>∃ (k:Nat) (A:Option Addr) (c2:Nat),k≤ps.length∧i=.int .i64 k∧v=.slice A k c2∧OwnS wr w.heap.size 9 A k c2 (strs (prods (ps.take k)))∧(ps.take k).all (fun p=>decide (dl (p.1*p.2)≤4096))=true∧Below w.heap.size w wr) (fun _ _ _ _ i _=>ps.length - (intOf i).toNat)
 case atStart=>exact ⟨0,A0,ps.length,by omega,rfl,rfl,hown0,rfl,hb0⟩
 case round =>
  obtain ⟨k,A,c2,hk,rfl,rfl,hown,hall,hbel⟩:=hrel
  have HA:=Lib.hid hall
  clear hall
  by_cases hlt:k<ps.length
  ·have c1:wr.cell? ⟨bk,k*2,none⟩=some (.string (B (decI (ps.getD k (0,0)).1))):=(hbel.cell (p:=⟨bk,k*2,none⟩) hb).trans (HX.out k hlt).1
   have c2':wr.cell? ⟨bk,k*2+1,none⟩=some (.string (B (decI (ps.getD k (0,0)).2))):=(hbel.cell (p:=⟨bk,k*2+1,none⟩) hb).trans (HX.out k hlt).2
   have hm:=HS.out k hlt
   have HT:=Lib.hid (show ps.take (k+1)=ps.take k ++ [ps.getD k (0,0)] by rw [List.take_succ_eq_append_getElem hlt];simp [hlt])
   have HM:=Lib.hid (show ps.getD k (0,0) ∈ ps by rw [List.getD_eq_getElem?_getD,List.getElem?_eq_getElem hlt];exact List.getElem_mem hlt)
   generalize ps.getD k (0,0)=p at *
   obtain ⟨x,y⟩:=p
   have HP:=Lib.hid (fun w ht=>pmulq_any x y w hm.1 hm.2 ht)
   clear hm
   have b1:Below wr.heap.size wr (wr.alloc (.cells #[.string (B (decI x)),.string (B (decI y))] 204)):=(Below.refl _ _).alloc (Nat.le_refl _) _
   have a1:=hbel.trans (b1.mono hbel.size)
   by_cases hd:dl (x*y)≤4096
   ·have hr:=resIS_dec hd
    rw [hr.1,hr.2] at HP
    have hdl:=dl_len (x*y)
    have HA2:=Lib.hid (show (ps.take (k+1)).all (fun p=>decide (dl (p.1*p.2)≤4096))=true by rw [HT.out,List.all_append,HA.out];simp [hd])
    clear hd hr
    go_wp2_with fail
    refine (HP.out _ (ht.below a1)).mono ?_
    rintro e w2 ⟨rfl,hb2⟩
    have b2:=b1.trans (hb2.mono b1.size)
    have a2:=hbel.trans (b2.mono hbel.size)
    have hown1:=hown.below b2
    go_wp2_with (at_builtin;refine wp_app1 el_string rfl _ _ rfl w.heap.size _ _ _ (strs (prods (ps.take k))) _ (.string (B (decI (x*y)))) rfl hown1 rfl rfl (by unfold maxLen;omega) (by omega) a2.size ?_;intro A3 c3 w3 hown3 hb3)
    go_roundw
    case rel=>exact ⟨k+1,A3,c3,by omega,by go_num,rfl,by rw [HT.out];simpa [prods,strs] using hown3,HA2.out,a2.trans hb3⟩
    case measure=>simp [intOf];omega
   ·have hr:resIS (x*y)=[]∧resIE (x*y)=4:=⟨if_neg hd,if_neg hd⟩
    rw [hr.1,hr.2] at HP
    have HN:=Lib.hid (show ps.all (fun p=>decide (dl (p.1*p.2)≤4096))=false by rw [List.all_eq_false];exact ⟨(x,y),HM.out,by simpa using hd⟩)
    clear hd hr
    go_wp2_with fail
    refine (HP.out _ (ht.below a1)).mono ?_
    rintro e w2 ⟨rfl,hb2⟩
    have b2:=b1.trans (hb2.mono b1.size)
    go_wp2_with fail
    go_ret2
    exact ⟨hbel.trans (b2.mono hbel.size),_,_,rfl,.inr ⟨HN.out,rfl,rfl⟩⟩
  ·obtain rfl:k=ps.length:=by omega
   have HE:=Lib.hid (show ps.take ps.length=ps from List.take_length)
   rw [HE.out] at hown HA
   go_wp2_with fail
   go_ret2
   exact ⟨hbel,_,_,rfl,.inl ⟨HA.out,rfl,A,c2,rfl,hown⟩⟩
theorem keep2 {w wo wn:World} {g:Nat} {v0 v1:Value} (h:Below w.heap.size w wo∧wo.cell? ⟨g,0,none⟩=some v0∧wo.cell? ⟨g,1,none⟩=some v1∧g<wo.heap.size) (hb:Below wo.heap.size wo wn) :
  Below w.heap.size w wn∧wn.cell? ⟨g,0,none⟩=some v0∧wn.cell? ⟨g,1,none⟩=some v1∧g<wn.heap.size :=
 ⟨h.1.trans (hb.mono h.1.size),(hb.cell (p:=⟨g,0,none⟩) h.2.2.2).trans h.2.1,(hb.cell (p:=⟨g,1,none⟩) h.2.2.2).trans h.2.2.1,Nat.lt_of_lt_of_le h.2.2.2 hb.size⟩
theorem two_in {w:World} {x y u v:Value} {t:TypeId}:∀ (i:Nat) (z:Value),#[x,y,u,v][i]? = some z→(w.alloc (.cells #[x,y,u,v] t)).cell? ⟨w.heap.size,i,none⟩=some z:=by
 intro i z h
 rw [show (w.alloc (.cells #[x,y,u,v] t)).cell? ⟨w.heap.size,i,none⟩=#[x,y,u,v][i]? by
  have e:(w.alloc (.cells #[x,y,u,v] t)).heap[w.heap.size]? = some (.cells #[x,y,u,v] t):=by
   show (w.heap.push (.cells #[x,y,u,v] t))[w.heap.size]? = _
   simp
  unfold World.cell?;simp only [e];rfl]
 exact h
theorem qprod2_any (x y u v:Int) (t:TypeId) (w:World) (hx:dl x≤4096) (hy:dl y≤4096) (hu:dl u≤4096) (hv:dl v≤4096) (ht:Tab w) :
  Calls Tryz.prog 106 #[.slice (some ⟨w.heap.size,0,none⟩) 2 2] (w.alloc (.cells #[.string (B (decI x)),.string (B (decI y)),.string (B (decI u)),.string (B (decI v))] t)) fun e w'=>Below w.heap.size w w'∧∃ r er,e=.returned (.tuple #[r,.int .i64 er]) ∧
   ((dl (x*y)≤4096∧dl (u*v)≤4096∧er=0∧∃ g c,r=.slice (some ⟨g,0,none⟩) 2 c∧2≤c∧c≤maxLen∧g<w'.heap.size∧w'.cell? ⟨g,0,none⟩=some (.string (B (decI (x*y))))∧w'.cell? ⟨g,1,none⟩=some (.string (B (decI (u*v))))) ∨
    (¬ (dl (x*y)≤4096∧dl (u*v)≤4096)∧er=4∧r=.slice none 0 0)):=by
 have b1:Below w.heap.size w (w.alloc (.cells #[.string (B (decI x)),.string (B (decI y)),.string (B (decI u)),.string (B (decI v))] t)):=(Below.refl _ _).alloc (Nat.le_refl _) _
 have h:=qprod_any [(x,y),(u,v)] w.heap.size 2 (w.alloc (.cells #[.string (B (decI x)),.string (B (decI y)),.string (B (decI u)),.string (B (decI v))] t)) (by simp) ⟨by simp,by unfold maxLen;omega⟩ (by simp) (ht.below b1)
  (by intro k hk;match k,hk with
   |0,_=>exact ⟨hx,hy⟩
   |1,_=>exact ⟨hu,hv⟩)
  (by intro k hk;match k,hk with
   |0,_=>exact ⟨two_in 0 _ rfl,two_in 1 _ rfl⟩
   |1,_=>exact ⟨two_in 2 _ rfl,two_in 3 _ rfl⟩)
 refine h.mono ?_
 rintro e w' ⟨hb,r,er,rfl,hc⟩
 refine ⟨b1.trans (hb.mono b1.size),r,er,rfl,?_⟩
 rcases hc with ⟨ha,rfl,A,c,rfl,hown⟩ | ⟨ha,rfl,rfl⟩
 ·simp at ha
  obtain ⟨g,rfl,hg1,hg2,hgc,hgf⟩:=hown.at_ (by simp)
  have hcap:=hown.cap
  exact .inl ⟨ha.1,ha.2,rfl,g,c,rfl,hcap.1,hcap.2,hg2,hgc 0 (by simp),hgc 1 (by simp)⟩
 ·refine .inr ⟨?_,rfl,rfl⟩
  rintro ⟨h1,h2⟩
  simp [h1,h2] at ha
end Go.Proofs.YtjcekdiocliddaaGreatDoor
namespace Go.Proofs.YtjcekdiocliddaaGreatDoor
open Go.RowKit Num
set_option linter.unusedVariables false
attribute [local go_sem] B_size B_get B_toList B_mk B_extract B_append
attribute [local go_sem high] run_max2
end Go.Proofs.YtjcekdiocliddaaGreatDoor
namespace Go.Proofs.YtjcekdiocliddaaGreatDoor
open Go.RowKit Num
set_option linter.unusedVariables false
attribute [local go_sem] B_size B_get B_toList B_mk B_extract B_append
attribute [local go_sem high] run_max2
theorem one_in {w:World} {x y:Value} {t:TypeId}:∀ (i:Nat) (z:Value),#[x,y][i]? = some z→(w.alloc (.cells #[x,y] t)).cell? ⟨w.heap.size,i,none⟩=some z:=by
 intro i z h
 rw [show (w.alloc (.cells #[x,y] t)).cell? ⟨w.heap.size,i,none⟩=#[x,y][i]? by
  have e:(w.alloc (.cells #[x,y] t)).heap[w.heap.size]? = some (.cells #[x,y] t):=by
   show (w.heap.push (.cells #[x,y] t))[w.heap.size]? = _
   simp
  unfold World.cell?;simp only [e];rfl]
 exact h
theorem qprod1_any (x y:Int) (t:TypeId) (w:World) (hx:dl x≤4096) (hy:dl y≤4096) (ht:Tab w) :
  Calls Tryz.prog 106 #[.slice (some ⟨w.heap.size,0,none⟩) 1 1] (w.alloc (.cells #[.string (B (decI x)),.string (B (decI y))] t)) fun e w'=>Below w.heap.size w w'∧∃ r er,e=.returned (.tuple #[r,.int .i64 er]) ∧
   ((dl (x*y)≤4096∧er=0∧∃ g c,r=.slice (some ⟨g,0,none⟩) 1 c∧1≤c∧c≤maxLen∧g<w'.heap.size∧w'.cell? ⟨g,0,none⟩=some (.string (B (decI (x*y))))) ∨
    (¬ dl (x*y)≤4096∧er=4∧r=.slice none 0 0)):=by
 have b1:Below w.heap.size w (w.alloc (.cells #[.string (B (decI x)),.string (B (decI y))] t)):=(Below.refl _ _).alloc (Nat.le_refl _) _
 have h:=qprod_any [(x,y)] w.heap.size 1 (w.alloc (.cells #[.string (B (decI x)),.string (B (decI y))] t)) (by simp) ⟨by simp,by unfold maxLen;omega⟩ (by simp) (ht.below b1)
  (by intro k hk;match k,hk with
   |0,_=>exact ⟨hx,hy⟩)
  (by intro k hk;match k,hk with
   |0,_=>exact ⟨one_in 0 _ rfl,one_in 1 _ rfl⟩)
 refine h.mono ?_
 rintro e w' ⟨hb,r,er,rfl,hc⟩
 refine ⟨b1.trans (hb.mono b1.size),r,er,rfl,?_⟩
 rcases hc with ⟨ha,rfl,A,c,rfl,hown⟩ | ⟨ha,rfl,rfl⟩
 ·simp at ha
  obtain ⟨g,rfl,hg1,hg2,hgc,hgf⟩:=hown.at_ (by simp)
  have hcap:=hown.cap
  exact .inl ⟨ha,rfl,g,c,rfl,hcap.1,hcap.2,hg2,hgc 0 (by simp)⟩
 ·refine .inr ⟨?_,rfl,rfl⟩
  intro h1
  simp [h1] at ha
theorem keep1 {w wo wn:World} {g:Nat} {v0:Value} (h:Below w.heap.size w wo∧wo.cell? ⟨g,0,none⟩=some v0∧g<wo.heap.size) (hb:Below wo.heap.size wo wn) :
  Below w.heap.size w wn∧wn.cell? ⟨g,0,none⟩=some v0∧g<wn.heap.size :=
 ⟨h.1.trans (hb.mono h.1.size),(hb.cell (p:=⟨g,0,none⟩) h.2.2).trans h.2.1,Nat.lt_of_lt_of_le h.2.2 hb.size⟩
theorem paddq_any (x y:Int) (w:World) (hx:dl x≤4096) (hy:dl y≤4096) (ht:Tab w) :
  Calls Tryz.prog 52 #[.string (B (decI x)),.string (B (decI y))] w fun e w'=>e=.returned (.tuple #[.string (B (resIS (x+y))),.int .i64 (resIE (x+y))])∧Below w.heap.size w w':=by
 have h1:=dl_len x
 have h2:=dl_len y
 have h:=padd_any (decI x) (decI y) w (by omega) (by omega) ht
 have he:=errI_dec (x:=x) (y:=y) hx hy
 have e1:addIS (decI x) (decI y)=resIS (x+y):=by unfold addIS;rw [if_pos he,valI_decI,valI_decI]
 have e2:addIE (decI x) (decI y)=resIE (x+y):=by unfold addIE;rw [if_pos he,valI_decI,valI_decI]
 rw [e1,e2] at h;exact h
set_option maxHeartbeats 2000000 in
set_option maxRecDepth 100000 in
theorem qcombadd_any (a b:List UInt8) (w:World) (ha:a.length≤1000000) (hb:b.length≤1000000) (he:Env w) :
  Calls Tryz.prog 51 #[.string (B a),.string (B b),.func (Fn.func 52) #[] #[]] w fun e w'=>e=.returned (.tuple #[.string (B (addQS a b)),.int .i64 (addQE a b)])∧Below w.heap.size w w':=by
 have HT:=Lib.hid (qtwo_any a b w ha hb he)
 have ht:=he.1
 by_cases h0:errQ a b=0
 ·have hr:=errQ_zero.1 h0
  have pa:=rq_parts hr.1
  have pb:=rq_parts hr.2
  have HS:=Lib.hid (show ∀ s,twoS a b s=s by intro s;unfold twoS;rw [if_pos h0])
  rw [HS.out,HS.out,HS.out,HS.out,h0,pa.1,pa.2.1,pb.1,pb.2.1,← decI_nat,← decI_nat] at HT
  have HC:=Lib.hid (show addQE a b=if sumOK (qn a*qd b) (qn b*qd a) (qn a*qd b+qn b*qd a) ((qd a:Int)*qd b) then 0 else 4 by unfold addQE;rw [if_pos h0])
  have HSS:=Lib.hid (show addQS a b=if addQE a b=0 then lowS (qn a*qd b+qn b*qd a) (qd a*qd b) else [] from rfl)
  have HP:=Lib.hid (fun t w ht=>qprod2_any (qn a) (qd b) (qn b) (qd a) t w pa.2.2.2.1 (by rw [dl_nat];exact pb.2.2.2.2.1) pb.2.2.2.1 (by rw [dl_nat];exact pa.2.2.2.2.1) ht)
  have HP1:=Lib.hid (fun t w ht=>qprod1_any (qd a) (qd b) t w (by rw [dl_nat];exact pa.2.2.2.2.1) (by rw [dl_nat];exact pb.2.2.2.2.1) ht)
  have hm0:0<qd a*qd b:=Nat.mul_pos pa.2.2.1 pb.2.2.1
  have HM:=Lib.hid (show decI ((qd a:Int)*(qd b:Int))=dec (qd a*qd b) by rw [← Int.natCast_mul,decI_nat])
  have HDL:=Lib.hid (show dl ((qd a:Int)*(qd b:Int))=(dec (qd a*qd b)).length by rw [← Int.natCast_mul,dl_nat])
  clear pa pb hr h0 HS
  go_enter Tryz.func51,Tryz.ntmps51
  simp only [B_mk]
  go_wp2_with fail
  refine HT.out.mono ?_
  rintro e w1 ⟨rfl,hb1⟩
  go_wp2_with fail
  refine (HP.out _ w1 (ht.below hb1)).mono ?_
  rintro e w2 ⟨hb2,r,er,rfl,hc⟩
  have a2:=hb1.trans (hb2.mono hb1.size)
  rcases hc with ⟨h1,h2,rfl,g,c,rfl,hc1,hc2,hg,c0,c1⟩ | ⟨hno,rfl,rfl⟩
  ·have HW:=Lib.hid (fun w ht=>paddq_any (qn a*qd b) (qn b*qd a) w h1 h2 ht)
   unfold maxLen at hc2
   have hbd:Below w.heap.size w w2.drew:=below_drew a2
   have hS0:Below w.heap.size w w2.drew∧w2.drew.cell? ⟨g,0,none⟩=some (.string (B (decI (qn a*qd b))))∧w2.drew.cell? ⟨g,1,none⟩=some (.string (B (decI (qn b*qd a))))∧g<w2.drew.heap.size:=⟨hbd,c0,c1,hg⟩
   by_cases h3:dl (qn a*qd b+qn b*qd a)≤4096
   ·have hrr:=resIS_dec h3
    rw [hrr.1,hrr.2] at HW
    have H3:=Lib.hid h3
    have H12:=Lib.hid (And.intro h1 h2)
    clear h1 h2 h3 hrr
    go_wp2_with fail
    have hL:=HW.out _ (ht.below hbd)
    go_region_held3 (fun w'=>Below w.heap.size w w'∧w'.cell? ⟨g,0,none⟩=some (.string (B (decI (qn a*qd b))))∧w'.cell? ⟨g,1,none⟩=some (.string (B (decI (qn b*qd a))))∧g<w'.heap.size)
     (first | (exact keep2 (hb:=hb3) (by assumption)) | (with_reducible exact hS0))
     (first | (go_at_call 52;((with_reducible refine hL.mono ?_);rintro e w3 ⟨rfl,hb3⟩)))
    all_goals
     have a3:=hbd.trans (hb3.mono hbd.size)
     go_wp2_with fail
     refine (HP1.out _ w3 (ht.below a3)).mono ?_
     rintro e w4 ⟨hb4,r,er,rfl,hc⟩
     have a4:=a3.trans (hb4.mono a3.size)
     rcases hc with ⟨h4,rfl,g2,c2,rfl,hd1,hd2,hg2,d0⟩ | ⟨hno,rfl,rfl⟩
     ·have HE:=Lib.hid (show addQE a b=0 by rw [HC.out];exact if_pos ⟨H12.out.1,H12.out.2,H3.out,h4⟩)
      have HR:=Lib.hid (show addQS a b=lowS (qn a*qd b+qn b*qd a) (qd a*qd b) by rw [HSS.out];exact if_pos HE.out)
      rw [HM.out] at d0
      rw [HDL.out] at h4
      have HL:=Lib.hid (fun w ht=>qlowest_any (qn a*qd b+qn b*qd a) (qd a*qd b) w H3.out h4 hm0 ht)
      unfold maxLen at hd2
      clear h4
      go_wp2_with fail
      refine (HL.out _ (ht.below a4)).mono ?_
      rintro e w5 ⟨rfl,hb5⟩
      go_wp2_with fail
      go_ret2
      exact ⟨ret_si' HR.out.symm HE.out.symm,a4.trans (hb5.mono a4.size)⟩
     ·have HE:=Lib.hid (show addQE a b=4 by rw [HC.out];exact if_neg (fun h=>hno h.2.2.2))
      have HR:=Lib.hid (show addQS a b=[] by rw [HSS.out,HE.out];rfl)
      clear hno
      go_wp2_with fail
      go_ret2
      exact ⟨ret_si' HR.out.symm HE.out.symm,a4⟩
   ·have hrr:resIS (qn a*qd b+qn b*qd a)=[]∧resIE (qn a*qd b+qn b*qd a)=4:=⟨if_neg h3,if_neg h3⟩
    rw [hrr.1,hrr.2] at HW
    have HE:=Lib.hid (show addQE a b=4 by rw [HC.out];exact if_neg (fun h=>h3 h.2.2.1))
    have HR:=Lib.hid (show addQS a b=[] by rw [HSS.out,HE.out];rfl)
    clear h1 h2 h3 hrr
    go_wp2_with fail
    have hL:=HW.out _ (ht.below hbd)
    go_region_held3 (fun w'=>Below w.heap.size w w'∧w'.cell? ⟨g,0,none⟩=some (.string (B (decI (qn a*qd b))))∧w'.cell? ⟨g,1,none⟩=some (.string (B (decI (qn b*qd a))))∧g<w'.heap.size)
     (first | (exact keep2 (hb:=hb3) (by assumption)) | (with_reducible exact hS0))
     (first | (go_at_call 52;((with_reducible refine hL.mono ?_);rintro e w3 ⟨rfl,hb3⟩)))
    all_goals
     go_wp2_with fail
     go_ret2
     exact ⟨ret_si' HR.out.symm HE.out.symm,hbd.trans (hb3.mono hbd.size)⟩
  ·have HE:=Lib.hid (show addQE a b=4 by rw [HC.out];exact if_neg (fun h=>hno ⟨h.1,h.2.1⟩))
   have HR:=Lib.hid (show addQS a b=[] by rw [HSS.out,HE.out];rfl)
   clear hno
   go_wp2_with fail
   go_ret2
   exact ⟨ret_si' HR.out.symm HE.out.symm,a2⟩
 ·have h3:errQ a b=3:=by unfold errQ at h0 ⊢;by_cases h:rightQ a=true∧rightQ b=true;exact absurd (if_pos h) h0;exact if_neg h
  have HE:=Lib.hid (show addQE a b=3 by unfold addQE;rw [if_neg h0])
  have HR:=Lib.hid (show addQS a b=[] by unfold addQS;rw [HE.out];rfl)
  rw [h3] at HT
  clear h0 h3
  go_enter Tryz.func51,Tryz.ntmps51
  simp only [B_mk]
  go_wp2_with fail
  refine HT.out.mono ?_
  rintro e w1 ⟨rfl,hb1⟩
  go_wp2_with fail
  go_ret2
  exact ⟨ret_si' HR.out.symm HE.out.symm,hb1⟩
theorem qadd_any (a b:List UInt8) (w:World) (ha:a.length≤1000000) (hb:b.length≤1000000) (he:Env w) :
  Calls Tryz.prog 17 #[.string (B a),.string (B b)] w fun e w'=>e=.returned (.tuple #[.string (B (addQS a b)),.int .i64 (addQE a b)])∧Below w.heap.size w w':=by
 go_enter Tryz.func17,Tryz.ntmps17
 go_wp2_with fail
 refine (qcombadd_any a b w ha hb he).mono ?_
 rintro e w1 ⟨rfl,hb1⟩
 go_wp2_with fail
 go_ret2
 exact ⟨rfl,hb1⟩
end Go.Proofs.YtjcekdiocliddaaGreatDoor
namespace Go.Proofs.YtjcekdiocliddaaGreatDoor
open Go.RowKit Num Txt Pf Tk
set_option linter.unusedVariables false
attribute [local go_sem] B_size B_get B_toList B_mk B_extract B_append
theorem third_add:addQE [49,47,50] [49,47,51]=0∧addQS [49,47,50] [49,47,51]=[53,47,54]:=by decide +kernel
theorem arr_awake:arrT [(0,5),(20,35)] 10=20:=by decide +kernel
theorem pts_awake:PtsOK [(0,5),(20,35)]:=⟨by decide,by decide,by decide,fun i h=>by
 have h1:i=0:=by simp at h;omega
 subst h1
 exact ⟨by show (0:Int)<20;decide,by show (5:Int)≤35;decide⟩⟩
set_option maxHeartbeats 4000000 in
set_option maxRecDepth 100000 in
theorem tawake_any (w:World) (he:Env w) (hT:Tab w):Calls Tryz.prog 6 #[] w fun e w'=>e=.returned (.bool true)∧Below w.heap.size w w':=by
 have HA0:=qadd_any [49,47,50] [49,47,51] w (by decide) (by decide) he
 rw [third_add.1,third_add.2] at HA0
 have HA:=Lib.hid HA0
 clear HA0
 have HT:=Lib.hid hT
 clear he hT
 go_enter Tryz.func6,Tryz.ntmps6
 (try simp only [B_mk])
 go_wp2_with fail
 refine HA.out.mono ?_
 rintro e w1 ⟨rfl,hb1⟩
 have HB1:=Lib.hid hb1
 have HT1:=Lib.hid (HT.out.below hb1)
 clear hb1 HA HT
 go_wp2_with fail
 have HN:=Lib.hid (new_at w1 (.cells #[.int .i64 0,.int .i64 5,.int .i64 20,.int .i64 35] 74)).1
 have hrow:=(new_at w1 (.cells #[.int .i64 0,.int .i64 5,.int .i64 20,.int .i64 35] 74)).2
 have hc:Cells (w1.alloc (.cells #[.int .i64 0,.int .i64 5,.int .i64 20,.int .i64 35] 74)) (some ⟨w1.heap.size,0,none⟩) ([(0,5),(20,35)].flatMap pntC):=fun _=>⟨w1.heap.size,0,rfl,lt_heap hrow,fun j v hv=>by
  rw [Nat.zero_add,cell_of_row _ _ j _ _ _ hrow,← hv]
  first | rfl | exact List.getElem?_toArray | simp [pntC]⟩
 refine (tArrive_ok [(0,5),(20,35)] (some ⟨w1.heap.size,0,none⟩) 2 10 _ hc ⟨by decide,by decide⟩ pts_awake (by decide) (HT1.out.below HN.out)).mono ?_
 rw [arr_awake]
 rintro e w2 ⟨rfl,hb2⟩
 have HB2:=Lib.hid ((HB1.out.trans (HN.out.mono HB1.out.size)).trans (hb2.mono (Nat.le_trans HB1.out.size HN.out.size)))
 clear hrow hc hb2
 go_wp2_with fail
 go_ret
 exact ⟨rfl,HB2.out⟩
end Go.Proofs.YtjcekdiocliddaaGreatDoor

/- ratio: Sign, Floor, Ceil, Compare. (Printed by wip/rprog4.py.) -/
import Derived.Test.YtjcekdiocliddaaGreatDoorG47
import Derived.Test.YtjcekdiocliddaaGreatDoorG46
import Derived.Test.YtjcekdiocliddaaGreatDoorG12
import Derived.Test.YtjcekdiocliddaaGreatDoorG70
import Derived.Test.YtjcekdiocliddaaGreatDoorG71
namespace Go.Proofs.YtjcekdiocliddaaGreatDoor
open Lib (hid)
open Go.RowKit Num
set_option linter.unusedVariables false
attribute [local go_sem] BS Bg Bt Bm Be Ba
attribute [local go_sem high] rm
theorem pmulq_any (x y:Int) (w:World) (hx:dl x<=4096) (hy:dl y<=4096) (ht:Tb w) :
  Calls Tryz.prog 151 #[.string (B (dI x)),.string (B (dI y))] w fun e w'=>e=.returned (.tuple #[.string (B (RS (x*y))),.int .i64 (rE (x*y))])/\Below w.heap.size w w':=by
 have h1:=Dl x;have h2:=Dl y;have h:=pmul_any (dI x) (dI y) w (by omega) (by omega) ht;have he:=errI_dec (x:=x) (y:=y) hx hy;have e1:mulIS (dI x) (dI y)=RS (x*y):=by unfold mulIS;rw [if_pos he,vI,vI]
 have e2:mulIE (dI x) (dI y)=rE (x*y):=by unfold mulIE;rw [if_pos he,vI,vI]
 rw [e1,e2] at h;exact h
def prods (ps:List (Int × Int)):List Sr:=ps.map fun p=>dI (p.1*p.2)
set_option maxRecDepth 100000 in
theorem qprod_any (ps:List (Int × Int)) (bk c:Nat) (w:World) (hn:ps.length<=2) (hc:ps.length<=c/\c<=maxLen) (hb:bk<w.heap.size) (ht:Tb w)
  (hs:∀ k,k<ps.length->dl (ps.getD k (0,0)).1<=4096/\dl (ps.getD k (0,0)).2<=4096)
  (hx:∀ k,k<ps.length->w.cell? ⟨bk,k*2,none⟩=some (.string (B (dI (ps.getD k (0,0)).1)))/\w.cell? ⟨bk,k*2+1,none⟩=some (.string (B (dI (ps.getD k (0,0)).2)))) :
  Calls Tryz.prog 106 #[.slice (some ⟨bk,0,none⟩) ps.length c] w fun e w'=>Below w.heap.size w w'/\∃ v er,e=.returned (.tuple #[v,.int .i64 er]) /\
   ((ps.all (fun p=>decide (dl (p.1*p.2)<=4096))=true/\er=0/\∃ A c,v=.slice A ps.length c/\OS w' w.heap.size 9 A ps.length c (strs (prods ps))) ∨
    (ps.all (fun p=>decide (dl (p.1*p.2)<=4096))=false/\er=4/\v=.slice none 0 0)):=by
 unfold maxLen at hc;have HX:=hid hx;have HS:=hid hs;clear hx hs;go_enter Tryz.func106,Tryz.ntmps106;go_wp2_with (refine wp_mk0 el_string rfl _ _ rfl w.heap.size _ .i64 .i64 _ ps.length rfl rfl rfl (by omega) (by unfold maxLen;omega) (Nat.le_refl _) ?_;intro A0 w0 hown0 hb0)
 go_loopw [4,6,7,8,14] (fun v x n e i wr=>∃ (k:Nat) (A:Option Addr) (c2:Nat),k<=ps.length/\i=.int .i64 k/\v=.slice A k c2/\OS wr w.heap.size 9 A k c2 (strs (prods (ps.take k)))/\(ps.take k).all (fun p=>decide (dl (p.1*p.2)<=4096))=true/\Below w.heap.size w wr) (fun _ _ _ _ i _=>ps.length - (intOf i).toNat)
 case atStart=>exact ⟨0,A0,ps.length,by omega,rfl,rfl,hown0,rfl,hb0⟩
 case round =>
  obtain ⟨k,A,c2,hk,rfl,rfl,hown,hall,hbel⟩:=hrel;have HA:=hid hall;clear hall;by_cases hlt:k<ps.length
  ·have c1:wr.cell? ⟨bk,k*2,none⟩=some (.string (B (dI (ps.getD k (0,0)).1))):=(hbel.cell (p:=⟨bk,k*2,none⟩) hb).trans (HX.out k hlt).1
   have c2':wr.cell? ⟨bk,k*2+1,none⟩=some (.string (B (dI (ps.getD k (0,0)).2))):=(hbel.cell (p:=⟨bk,k*2+1,none⟩) hb).trans (HX.out k hlt).2;have hm:=HS.out k hlt;have HT:=hid (show ps.take (k+1)=ps.take k ++ [ps.getD k (0,0)] by rw [List.take_succ_eq_append_getElem hlt];simp [hlt])
   have HM:=hid (show ps.getD k (0,0) ∈ ps by rw [List.getD_eq_getElem?_getD,List.getElem?_eq_getElem hlt];exact List.getElem_mem hlt);generalize ps.getD k (0,0)=p at *;obtain ⟨x,y⟩:=p;have HP:=hid (fun w ht=>pmulq_any x y w hm.1 hm.2 ht);clear hm;have b1:Below wr.heap.size wr (wr.alloc (.cells #[.string (B (dI x)),.string (B (dI y))] 204)):=(Below.refl _ _).alloc (Nat.le_refl _) _
   have a1:=hbel.trans (b1.mono hbel.size);by_cases hd:dl (x*y)<=4096
   ·have hr:=resIS_dec hd
    rw [hr.1,hr.2] at HP;have hdl:=Dl (x*y);have HA2:=hid (show (ps.take (k+1)).all (fun p=>decide (dl (p.1*p.2)<=4096))=true by rw [HT.out,List.all_append,HA.out];simp [hd]);clear hd hr;go_wp2_with fail;refine (HP.out _ (ht.below a1)).mono ?_;rintro e w2 ⟨rfl,hb2⟩;have b2:=b1.trans (hb2.mono b1.size);have a2:=hbel.trans (b2.mono hbel.size);have hown1:=hown.below b2
    go_wp2_with (at_builtin;refine W1 el_string rfl _ _ rfl w.heap.size _ _ _ (strs (prods (ps.take k))) _ (.string (B (dI (x*y)))) rfl hown1 rfl rfl (by unfold maxLen;omega) (by omega) a2.size ?_;intro A3 c3 w3 hown3 hb3)
    go_roundw
    case rel=>exact ⟨k+1,A3,c3,by omega,by go_num,rfl,by rw [HT.out];simpa [prods,strs] using hown3,HA2.out,a2.trans hb3⟩
    case measure=>simp [intOf];omega
   ·have hr:RS (x*y)=[]/\rE (x*y)=4:=⟨if_neg hd,if_neg hd⟩
    rw [hr.1,hr.2] at HP;have HN:=hid (show ps.all (fun p=>decide (dl (p.1*p.2)<=4096))=false by rw [List.all_eq_false];exact ⟨(x,y),HM.out,by simpa using hd⟩);clear hd hr;go_wp2_with fail;refine (HP.out _ (ht.below a1)).mono ?_;rintro e w2 ⟨rfl,hb2⟩;have b2:=b1.trans (hb2.mono b1.size);go_wp2_with fail;go_ret2;exact ⟨hbel.trans (b2.mono hbel.size),_,_,rfl,.inr ⟨HN.out,rfl,rfl⟩⟩
  ·obtain rfl:k=ps.length:=by omega
   have HE:=hid (show ps.take ps.length=ps from List.take_length);rw [HE.out] at hown HA;go_wp2_with fail;go_ret2;exact ⟨hbel,_,_,rfl,.inl ⟨HA.out,rfl,A,c2,rfl,hown⟩⟩
theorem keep2 {w wo wn:World} {g:Nat} {v0 v1:Value} (h:Below w.heap.size w wo/\wo.cell? ⟨g,0,none⟩=some v0/\wo.cell? ⟨g,1,none⟩=some v1/\g<wo.heap.size) (hb:Below wo.heap.size wo wn) :
  Below w.heap.size w wn/\wn.cell? ⟨g,0,none⟩=some v0/\wn.cell? ⟨g,1,none⟩=some v1/\g<wn.heap.size :=
 ⟨h.1.trans (hb.mono h.1.size),(hb.cell (p:=⟨g,0,none⟩) h.2.2.2).trans h.2.1,(hb.cell (p:=⟨g,1,none⟩) h.2.2.2).trans h.2.2.1,Nat.lt_of_lt_of_le h.2.2.2 hb.size⟩
theorem two_in {w:World} {x y u v:Value} {t:TypeId}:∀ (i:Nat) (z:Value),#[x,y,u,v][i]? = some z->(w.alloc (.cells #[x,y,u,v] t)).cell? ⟨w.heap.size,i,none⟩=some z:=by
 intro i z h
 rw [show (w.alloc (.cells #[x,y,u,v] t)).cell? ⟨w.heap.size,i,none⟩=#[x,y,u,v][i]? by
  have e:(w.alloc (.cells #[x,y,u,v] t)).heap[w.heap.size]? = some (.cells #[x,y,u,v] t):=by
   show (w.heap.push (.cells #[x,y,u,v] t))[w.heap.size]? = _
   simp
  unfold World.cell?;simp only [e];rfl]
 exact h
theorem qprod2_any (x y u v:Int) (t:TypeId) (w:World) (hx:dl x<=4096) (hy:dl y<=4096) (hu:dl u<=4096) (hv:dl v<=4096) (ht:Tb w) :
  Calls Tryz.prog 106 #[.slice (some ⟨w.heap.size,0,none⟩) 2 2] (w.alloc (.cells #[.string (B (dI x)),.string (B (dI y)),.string (B (dI u)),.string (B (dI v))] t)) fun e w'=>Below w.heap.size w w'/\∃ r er,e=.returned (.tuple #[r,.int .i64 er]) /\
   ((dl (x*y)<=4096/\dl (u*v)<=4096/\er=0/\∃ g c,r=.slice (some ⟨g,0,none⟩) 2 c/\2<=c/\c<=maxLen/\g<w'.heap.size/\w'.cell? ⟨g,0,none⟩=some (.string (B (dI (x*y))))/\w'.cell? ⟨g,1,none⟩=some (.string (B (dI (u*v))))) ∨
    (¬ (dl (x*y)<=4096/\dl (u*v)<=4096)/\er=4/\r=.slice none 0 0)):=by
 have b1:Below w.heap.size w (w.alloc (.cells #[.string (B (dI x)),.string (B (dI y)),.string (B (dI u)),.string (B (dI v))] t)):=(Below.refl _ _).alloc (Nat.le_refl _) _;have h:=qprod_any [(x,y),(u,v)] w.heap.size 2 (w.alloc (.cells #[.string (B (dI x)),.string (B (dI y)),.string (B (dI u)),.string (B (dI v))] t)) (by simp) ⟨by simp,by unfold maxLen;omega⟩ (by simp) (ht.below b1)
  (by intro k hk;match k,hk with
   |0,_=>exact ⟨hx,hy⟩
   |1,_=>exact ⟨hu,hv⟩)
  (by intro k hk;match k,hk with
   |0,_=>exact ⟨two_in 0 _ rfl,two_in 1 _ rfl⟩
   |1,_=>exact ⟨two_in 2 _ rfl,two_in 3 _ rfl⟩)
 refine h.mono ?_;rintro e w' ⟨hb,r,er,rfl,hc⟩;refine ⟨b1.trans (hb.mono b1.size),r,er,rfl,?_⟩;rcases hc with ⟨ha,rfl,A,c,rfl,hown⟩ | ⟨ha,rfl,rfl⟩
 ·simp at ha
  obtain ⟨g,rfl,hg1,hg2,hgc,hgf⟩:=hown.at_ (by simp);have hcap:=hown.cap;exact .inl ⟨ha.1,ha.2,rfl,g,c,rfl,hcap.1,hcap.2,hg2,hgc 0 (by simp),hgc 1 (by simp)⟩
 ·refine .inr ⟨?_,rfl,rfl⟩
  rintro ⟨h1,h2⟩;simp [h1,h2] at ha
theorem one_in {w:World} {x y:Value} {t:TypeId}:∀ (i:Nat) (z:Value),#[x,y][i]? = some z->(w.alloc (.cells #[x,y] t)).cell? ⟨w.heap.size,i,none⟩=some z:=by
 intro i z h
 rw [show (w.alloc (.cells #[x,y] t)).cell? ⟨w.heap.size,i,none⟩=#[x,y][i]? by
  have e:(w.alloc (.cells #[x,y] t)).heap[w.heap.size]? = some (.cells #[x,y] t):=by
   show (w.heap.push (.cells #[x,y] t))[w.heap.size]? = _
   simp
  unfold World.cell?;simp only [e];rfl]
 exact h
theorem qprod1_any (x y:Int) (t:TypeId) (w:World) (hx:dl x<=4096) (hy:dl y<=4096) (ht:Tb w) :
  Calls Tryz.prog 106 #[.slice (some ⟨w.heap.size,0,none⟩) 1 1] (w.alloc (.cells #[.string (B (dI x)),.string (B (dI y))] t)) fun e w'=>Below w.heap.size w w'/\∃ r er,e=.returned (.tuple #[r,.int .i64 er]) /\
   ((dl (x*y)<=4096/\er=0/\∃ g c,r=.slice (some ⟨g,0,none⟩) 1 c/\1<=c/\c<=maxLen/\g<w'.heap.size/\w'.cell? ⟨g,0,none⟩=some (.string (B (dI (x*y))))) ∨
    (¬ dl (x*y)<=4096/\er=4/\r=.slice none 0 0)):=by
 have b1:Below w.heap.size w (w.alloc (.cells #[.string (B (dI x)),.string (B (dI y))] t)):=(Below.refl _ _).alloc (Nat.le_refl _) _;have h:=qprod_any [(x,y)] w.heap.size 1 (w.alloc (.cells #[.string (B (dI x)),.string (B (dI y))] t)) (by simp) ⟨by simp,by unfold maxLen;omega⟩ (by simp) (ht.below b1)
  (by intro k hk;match k,hk with
   |0,_=>exact ⟨hx,hy⟩)
  (by intro k hk;match k,hk with
   |0,_=>exact ⟨one_in 0 _ rfl,one_in 1 _ rfl⟩)
 refine h.mono ?_;rintro e w' ⟨hb,r,er,rfl,hc⟩;refine ⟨b1.trans (hb.mono b1.size),r,er,rfl,?_⟩;rcases hc with ⟨ha,rfl,A,c,rfl,hown⟩ | ⟨ha,rfl,rfl⟩
 ·simp at ha
  obtain ⟨g,rfl,hg1,hg2,hgc,hgf⟩:=hown.at_ (by simp);have hcap:=hown.cap;exact .inl ⟨ha,rfl,g,c,rfl,hcap.1,hcap.2,hg2,hgc 0 (by simp)⟩
 ·refine .inr ⟨?_,rfl,rfl⟩
  intro h1;simp [h1] at ha
theorem paddq_any (x y:Int) (w:World) (hx:dl x<=4096) (hy:dl y<=4096) (ht:Tb w) :
  Calls Tryz.prog 52 #[.string (B (dI x)),.string (B (dI y))] w fun e w'=>e=.returned (.tuple #[.string (B (RS (x+y))),.int .i64 (rE (x+y))])/\Below w.heap.size w w':=by
 have h1:=Dl x;have h2:=Dl y;have h:=padd_any (dI x) (dI y) w (by omega) (by omega) ht;have he:=errI_dec (x:=x) (y:=y) hx hy;have e1:addIS (dI x) (dI y)=RS (x+y):=by unfold addIS;rw [if_pos he,vI,vI]
 have e2:addIE (dI x) (dI y)=rE (x+y):=by unfold addIE;rw [if_pos he,vI,vI]
 rw [e1,e2] at h;exact h
set_option maxHeartbeats 2000000 in
set_option maxRecDepth 100000 in
theorem qcombadd_any (a b:List UInt8) (w:World) (ha:a.length<=1000000) (hb:b.length<=1000000) (he:Env w) :
  Calls Tryz.prog 51 #[.string (B a),.string (B b),.func (Fn.func 52) #[] #[]] w fun e w'=>e=.returned (.tuple #[.string (B (AQ a b)),.int .i64 (aQ a b)])/\Below w.heap.size w w':=by
 have HT:=hid (qtwo_any a b w ha hb he);have ht:=he.1;by_cases h0:eQ a b=0
 ·have hr:=errQ_zero.1 h0
  have pa:=rq_parts hr.1;have pb:=rq_parts hr.2;have HS:=hid (show ∀ s,TS a b s=s by intro s;unfold TS;rw [if_pos h0]);rw [HS.out,HS.out,HS.out,HS.out,h0,pa.1,pa.2.1,pb.1,pb.2.1,<- DI,<- DI] at HT;have HC:=hid (show aQ a b=if sumOK (qn a*qd b) (qn b*qd a) (qn a*qd b+qn b*qd a) ((qd a:Int)*qd b) then 0 else 4 by unfold aQ;rw [if_pos h0])
  have HSS:=hid (show AQ a b=if aQ a b=0 then lowS (qn a*qd b+qn b*qd a) (qd a*qd b) else [] from rfl);have HP:=hid (fun t w ht=>qprod2_any (qn a) (qd b) (qn b) (qd a) t w pa.2.2.2.1 (by rw [Dt];exact pb.2.2.2.2.1) pb.2.2.2.1 (by rw [Dt];exact pa.2.2.2.2.1) ht)
  have HP1:=hid (fun t w ht=>qprod1_any (qd a) (qd b) t w (by rw [Dt];exact pa.2.2.2.2.1) (by rw [Dt];exact pb.2.2.2.2.1) ht);have hm0:0<qd a*qd b:=Nat.mul_pos pa.2.2.1 pb.2.2.1;have HM:=hid (show dI ((qd a:Int)*(qd b:Int))=dec (qd a*qd b) by rw [<- Int.natCast_mul,DI])
  have HDL:=hid (show dl ((qd a:Int)*(qd b:Int))=(dec (qd a*qd b)).length by rw [<- Int.natCast_mul,Dt]);clear pa pb hr h0 HS;go_enter Tryz.func51,Tryz.ntmps51;simp only [Bm];go_wp2_with fail;refine HT.out.mono ?_;rintro e w1 ⟨rfl,hb1⟩;go_wp2_with fail;refine (HP.out _ w1 (ht.below hb1)).mono ?_;rintro e w2 ⟨hb2,r,er,rfl,hc⟩;have a2:=hb1.trans (hb2.mono hb1.size)
  rcases hc with ⟨h1,h2,rfl,g,c,rfl,hc1,hc2,hg,c0,c1⟩ | ⟨hno,rfl,rfl⟩
  ·have HW:=hid (fun w ht=>paddq_any (qn a*qd b) (qn b*qd a) w h1 h2 ht)
   unfold maxLen at hc2;have hbd:Below w.heap.size w w2.drew:=bd a2;have hS0:Below w.heap.size w w2.drew/\w2.drew.cell? ⟨g,0,none⟩=some (.string (B (dI (qn a*qd b))))/\w2.drew.cell? ⟨g,1,none⟩=some (.string (B (dI (qn b*qd a))))/\g<w2.drew.heap.size:=⟨hbd,c0,c1,hg⟩
   by_cases h3:dl (qn a*qd b+qn b*qd a)<=4096
   ·have hrr:=resIS_dec h3
    rw [hrr.1,hrr.2] at HW;have H3:=hid h3;have H12:=hid (And.intro h1 h2);clear h1 h2 h3 hrr;go_wp2_with fail;have hL:=HW.out _ (ht.below hbd);go_region_held3 (fun w'=>Below w.heap.size w w'/\w'.cell? ⟨g,0,none⟩=some (.string (B (dI (qn a*qd b))))/\w'.cell? ⟨g,1,none⟩=some (.string (B (dI (qn b*qd a))))/\g<w'.heap.size)
     (first | (exact keep2 (hb:=hb3) (by assumption)) | (with_reducible exact hS0))
     (first | (go_at_call 52;((with_reducible refine hL.mono ?_);rintro e w3 ⟨rfl,hb3⟩)))
    all_goals
     have a3:=hbd.trans (hb3.mono hbd.size);go_wp2_with fail;refine (HP1.out _ w3 (ht.below a3)).mono ?_;rintro e w4 ⟨hb4,r,er,rfl,hc⟩;have a4:=a3.trans (hb4.mono a3.size);rcases hc with ⟨h4,rfl,g2,c2,rfl,hd1,hd2,hg2,d0⟩ | ⟨hno,rfl,rfl⟩
     ·have HE:=hid (show aQ a b=0 by rw [HC.out];exact if_pos ⟨H12.out.1,H12.out.2,H3.out,h4⟩)
      have HR:=hid (show AQ a b=lowS (qn a*qd b+qn b*qd a) (qd a*qd b) by rw [HSS.out];exact if_pos HE.out);rw [HM.out] at d0;rw [HDL.out] at h4;have HL:=hid (fun w ht=>qlowest_any (qn a*qd b+qn b*qd a) (qd a*qd b) w H3.out h4 hm0 ht);unfold maxLen at hd2;clear h4;go_wp2_with fail;refine (HL.out _ (ht.below a4)).mono ?_;rintro e w5 ⟨rfl,hb5⟩;go_wp2_with fail;go_ret2
      exact ⟨As HR.out.symm HE.out.symm,a4.trans (hb5.mono a4.size)⟩
     ·have HE:=hid (show aQ a b=4 by rw [HC.out];exact if_neg (fun h=>hno h.2.2.2))
      have HR:=hid (show AQ a b=[] by rw [HSS.out,HE.out];rfl);clear hno;go_wp2_with fail;go_ret2;exact ⟨As HR.out.symm HE.out.symm,a4⟩
   ·have hrr:RS (qn a*qd b+qn b*qd a)=[]/\rE (qn a*qd b+qn b*qd a)=4:=⟨if_neg h3,if_neg h3⟩
    rw [hrr.1,hrr.2] at HW;have HE:=hid (show aQ a b=4 by rw [HC.out];exact if_neg (fun h=>h3 h.2.2.1));have HR:=hid (show AQ a b=[] by rw [HSS.out,HE.out];rfl);clear h1 h2 h3 hrr;go_wp2_with fail;have hL:=HW.out _ (ht.below hbd)
    go_region_held3 (fun w'=>Below w.heap.size w w'/\w'.cell? ⟨g,0,none⟩=some (.string (B (dI (qn a*qd b))))/\w'.cell? ⟨g,1,none⟩=some (.string (B (dI (qn b*qd a))))/\g<w'.heap.size)
     (first | (exact keep2 (hb:=hb3) (by assumption)) | (with_reducible exact hS0))
     (first | (go_at_call 52;((with_reducible refine hL.mono ?_);rintro e w3 ⟨rfl,hb3⟩)))
    all_goals
     go_wp2_with fail;go_ret2;exact ⟨As HR.out.symm HE.out.symm,hbd.trans (hb3.mono hbd.size)⟩
  ·have HE:=hid (show aQ a b=4 by rw [HC.out];exact if_neg (fun h=>hno ⟨h.1,h.2.1⟩))
   have HR:=hid (show AQ a b=[] by rw [HSS.out,HE.out];rfl);clear hno;go_wp2_with fail;go_ret2;exact ⟨As HR.out.symm HE.out.symm,a2⟩
 ·have h3:eQ a b=3:=by unfold eQ at h0 ⊢;by_cases h:rQ a=true/\rQ b=true;exact absurd (if_pos h) h0;exact if_neg h
  have HE:=hid (show aQ a b=3 by unfold aQ;rw [if_neg h0]);have HR:=hid (show AQ a b=[] by unfold AQ;rw [HE.out];rfl);rw [h3] at HT;clear h0 h3;go_enter Tryz.func51,Tryz.ntmps51;simp only [Bm];go_wp2_with fail;refine HT.out.mono ?_;rintro e w1 ⟨rfl,hb1⟩;go_wp2_with fail;go_ret2;exact ⟨As HR.out.symm HE.out.symm,hb1⟩
theorem qadd_any (a b:List UInt8) (w:World) (ha:a.length<=1000000) (hb:b.length<=1000000) (he:Env w) :
  Calls Tryz.prog 17 #[.string (B a),.string (B b)] w fun e w'=>e=.returned (.tuple #[.string (B (AQ a b)),.int .i64 (aQ a b)])/\Below w.heap.size w w':=by
 go_enter Tryz.func17,Tryz.ntmps17;go_wp2_with fail;refine (qcombadd_any a b w ha hb he).mono ?_;rintro e w1 ⟨rfl,hb1⟩;go_wp2_with fail;go_ret2;exact ⟨rfl,hb1⟩
end Go.Proofs.YtjcekdiocliddaaGreatDoor
namespace Go.Proofs.YtjcekdiocliddaaGreatDoor
open Lib (hid)
open Go.RowKit Num Txt Pf Tk
set_option maxHeartbeats 32000000
set_option maxRecDepth 100000
set_option linter.unusedVariables false
attribute [local go_sem] BS Bg Bt Bm Be Ba
theorem third_add:aQ [49,47,50] [49,47,51]=0/\AQ [49,47,50] [49,47,51]=[53,47,54]:=by decide +kernel
theorem arr_awake:ar [(0,5),(20,35)] 10=20:=by decide +kernel
theorem pts_awake:PO [(0,5),(20,35)]:=⟨by decide,by decide,by decide,fun i h=>by
 have h1:i=0:=by simp at h;omega
 subst h1;exact ⟨by show (0:Int)<20;decide,by show (5:Int)<=35;decide⟩⟩
theorem tawake_any (w:World) (he:Env w) (hT:Tb w):Calls Tryz.prog 6 #[] w fun e w'=>e=.returned (.bool true)/\Below w.heap.size w w':=by
 have HA0:=qadd_any [49,47,50] [49,47,51] w (by decide) (by decide) he;rw [third_add.1,third_add.2] at HA0;have HA:=hid HA0;clear HA0;have HT:=hid hT;clear he hT;go_enter Tryz.func6,Tryz.ntmps6;(try simp only [Bm]);go_wp2_with fail;refine HA.out.mono ?_;rintro e w1 ⟨rfl,hb1⟩;have HB1:=hid hb1;have HT1:=hid (HT.out.below hb1);clear hb1 HA HT;go_wp2_with fail
 have HN:=hid (Na w1 (.cells #[.int .i64 0,.int .i64 5,.int .i64 20,.int .i64 35] 74)).1;have hrow:=(Na w1 (.cells #[.int .i64 0,.int .i64 5,.int .i64 20,.int .i64 35] 74)).2
 have hc:Cs (w1.alloc (.cells #[.int .i64 0,.int .i64 5,.int .i64 20,.int .i64 35] 74)) (some ⟨w1.heap.size,0,none⟩) ([(0,5),(20,35)].flatMap PC):=fun _=>⟨w1.heap.size,0,rfl,lh hrow,fun j v hv=>by
  rw [Nat.zero_add,cell_of_row _ _ j _ _ _ hrow,<- hv]
  first | rfl | exact List.getElem?_toArray | simp [PC]⟩
 refine (Dj [(0,5),(20,35)] (some ⟨w1.heap.size,0,none⟩) 2 10 _ hc ⟨by decide,by decide⟩ pts_awake (by decide) (HT1.out.below HN.out)).mono ?_;rw [arr_awake];rintro e w2 ⟨rfl,hb2⟩;have HB2:=hid ((HB1.out.trans (HN.out.mono HB1.out.size)).trans (hb2.mono (Nat.le_trans HB1.out.size HN.out.size)));clear hrow hc hb2;go_wp2_with fail;go_ret;exact ⟨rfl,HB2.out⟩
end Go.Proofs.YtjcekdiocliddaaGreatDoor

/- whole: Neg, Abs, signed, sum, Add, Sub, Mul. -/
import Derived.Test.YtljekdpgjaahjaaGreatDoorG11
import Derived.Test.YtljekdpgjaahjaaGreatDoorG9
import Derived.StillTailTactics
import Derived.Deep.RegionHeld3
import Derived.Test.YtljekdpgjaahjaaGreatDoorG7
import Derived.Deep.RegionWith
import Derived.Deep.DeepCutAuto
namespace Go.Proofs.YtljekdpgjaahjaaGreatDoor
open Go.RowKit Num
set_option linter.unusedVariables false
attribute [local go_sem] B_size B_get B_toList B_mk B_extract B_append
attribute [local go_sem high] run_max2
theorem errL_two (a b:Str):errL [a,b]=errI a b:=by
 unfold errL errI
 simp only [List.all_cons,List.all_nil,Bool.and_true,Bool.and_eq_true,decide_eq_true_eq]
theorem errL_one (a:Str):errL [a]=errI a a:=by
 unfold errL errI
 simp only [List.all_cons,List.all_nil,Bool.and_true,decide_eq_true_eq,and_self]
theorem cells_one (w:World) (a:Str):Cells (w.alloc (.cells #[.string (B a)] 9)) (some ⟨w.heap.size,0,none⟩) (strs [a]) :=
 (OwnS.lit w 9 #[.string (B a)] w.heap.size 1 (Nat.le_refl _) rfl (by unfold maxLen;omega)).cells
theorem cells_two (w:World) (a b:Str):Cells (w.alloc (.cells #[.string (B a),.string (B b)] 9)) (some ⟨w.heap.size,0,none⟩) (strs [a,b]) :=
 (OwnS.lit w 9 #[.string (B a),.string (B b)] w.heap.size 2 (Nat.le_refl _) rfl (by unfold maxLen;omega)).cells
theorem below_drew {B:Nat} {a w:World} (h:Below B a w):Below B a w.drew:=⟨h.os,h.tape,h.output,h.size,h.block⟩
theorem maxLen_le {n:Nat} (h:n≤1000000000):n≤maxLen:=by unfold maxLen;omega
theorem alloc_below (w:World) (o:Obj):Below w.heap.size w (w.alloc o):=(Below.refl _ _).alloc (Nat.le_refl _) _
theorem addS_dec' {p q:Nat} (hp:(dec p).length≤4096) (hq:(dec q).length≤4096):addS (dec p) (dec q)=resS (p+q)∧addE (dec p) (dec q)=resE (p+q):=by
 unfold addS addE;rw [if_pos (errT_dec hp hq),if_pos (errT_dec hp hq),val_dec,val_dec];exact ⟨rfl,rfl⟩
theorem subS_dec' {p q:Nat} (hp:(dec p).length≤4096) (hq:(dec q).length≤4096) (h:q≤p):subS (dec p) (dec q)=resS (p - q)∧subE (dec p) (dec q)=resE (p - q):=by
 unfold subS subE;rw [if_pos (errT_dec hp hq),if_pos (errT_dec hp hq),val_dec,val_dec,if_neg (by omega),if_neg (by omega)];exact ⟨rfl,rfl⟩
theorem mulS_dec' {p q:Nat} (hp:(dec p).length≤4096) (hq:(dec q).length≤4096):mulS (dec p) (dec q)=resS (p*q)∧mulE (dec p) (dec q)=resE (p*q):=by
 unfold mulS mulE;rw [if_pos (errT_dec hp hq),if_pos (errT_dec hp hq),val_dec,val_dec];exact ⟨rfl,rfl⟩
def Four (w:World) (g:Nat) (v0 v1 v2 v3:Value) (w':World):Prop:=Below w.heap.size w w'∧w'.cell? ⟨g,0,none⟩=some v0∧w'.cell? ⟨g,1,none⟩=some v1∧w'.cell? ⟨g,2,none⟩=some v2∧w'.cell? ⟨g,3,none⟩=some v3∧g<w'.heap.size
theorem keep4 {w wo wn:World} {g:Nat} {v0 v1 v2 v3:Value} (h:Below w.heap.size w wo∧wo.cell? ⟨g,0,none⟩=some v0∧wo.cell? ⟨g,1,none⟩=some v1∧wo.cell? ⟨g,2,none⟩=some v2∧wo.cell? ⟨g,3,none⟩=some v3∧g<wo.heap.size) (hb:Below wo.heap.size wo wn) :
  Below w.heap.size w wn∧wn.cell? ⟨g,0,none⟩=some v0∧wn.cell? ⟨g,1,none⟩=some v1∧wn.cell? ⟨g,2,none⟩=some v2∧wn.cell? ⟨g,3,none⟩=some v3∧g<wn.heap.size :=
 ⟨h.1.trans (hb.mono h.1.size),(hb.cell (p:=⟨g,0,none⟩) h.2.2.2.2.2).trans h.2.1,(hb.cell (p:=⟨g,1,none⟩) h.2.2.2.2.2).trans h.2.2.1,(hb.cell (p:=⟨g,2,none⟩) h.2.2.2.2.2).trans h.2.2.2.1,(hb.cell (p:=⟨g,3,none⟩) h.2.2.2.2.2).trans h.2.2.2.2.1,Nat.lt_of_lt_of_le h.2.2.2.2.2 hb.size⟩
theorem divS_dec {p q:Nat} (hp:(dec p).length≤4096) (hq:(dec q).length≤4096) (h:q≠0):divQ (dec p) (dec q)=dec (p / q)∧divR (dec p) (dec q)=dec (p % q)∧divE (dec p) (dec q)=0:=by
 have h0:divE (dec p) (dec q)=0:=by unfold divE;rw [if_pos (errT_dec hp hq),val_dec,if_neg h]
 unfold divQ divR;rw [h0,if_pos rfl,if_pos rfl,val_dec,val_dec];exact ⟨rfl,rfl,rfl⟩
theorem resS_len {n:Nat} (h:(dec n).length≤4096):resS n=dec n∧resE n=0:=⟨if_pos h,if_pos h⟩
theorem quo_len {x y:Nat} (hx:(dec x).length≤4096) (hy0:y≠0) (hr:x % y≠0):(dec (x / y+1)).length≤4096:=by
 refine Nat.le_trans (length_dec_mono ?_) hx
 have hx0:x≠0:=by intro e;rw [e] at hr;simp at hr
 have hy:2≤y∨y≤1:=by omega
 rcases hy with hy | hy
 ·have h1:x / y≤x / 2:=Nat.div_le_div_left hy (by omega)
  omega
 ·exfalso
  apply hr
  have h1:y=1:=by omega
  subst h1;exact Nat.mod_one x
theorem div_t_false {m n:Bool} {x y:Nat} (hy:0<y) (h:¬ (m≠n∧x % y≠0)):qI (sg m x) (sg n y)=sg (!(m == n)) (x / y)∧rI (sg m x) (sg n y)=sg n (x % y):=by
 by_cases hmn:m=n
 ·subst hmn
  have:=div_same m (x:=x) hy
  refine ⟨?_,this.2⟩
  rw [this.1];simp [sg]
 ·have hr:x % y=0:=by
   by_cases hr:x % y=0
   ·exact hr
   ·exact absurd ⟨hmn,hr⟩ h
  have:=div_exact hmn hy hr
  have hb:(!(m == n))=true:=by simpa using hmn
  rw [this.1,this.2,hr,hb,sg_zero];exact ⟨rfl,rfl⟩
theorem div_t_true {m n:Bool} {x y:Nat} (hy:0<y) (h:m≠n∧x % y≠0):qI (sg m x) (sg n y)=sg (!(m == n)) (x / y+1)∧rI (sg m x) (sg n y)=sg n (y - x % y):=by
 have:=div_other h.1 hy h.2
 have hb:(!(m == n))=true:=by simpa using h.1
 rw [this.1,this.2,hb];exact ⟨rfl,rfl⟩
theorem keepS {w wo wn:World} {m n:Bool} {p q:Nat} (h:Below w.heap.size w wo∧wo.cell? ⟨p,0,none⟩=some (.bool m)∧wo.cell? ⟨q,0,none⟩=some (.bool n)∧p<wo.heap.size∧q<wo.heap.size) (hb:Below wo.heap.size wo wn) :
  Below w.heap.size w wn∧wn.cell? ⟨p,0,none⟩=some (.bool m)∧wn.cell? ⟨q,0,none⟩=some (.bool n)∧p<wn.heap.size∧q<wn.heap.size :=
 ⟨h.1.trans (hb.mono h.1.size),(hb.cell (p:=⟨p,0,none⟩) h.2.2.2.1).trans h.2.1,(hb.cell (p:=⟨q,0,none⟩) h.2.2.2.2).trans h.2.2.1,Nat.lt_of_lt_of_le h.2.2.2.1 hb.size,Nat.lt_of_lt_of_le h.2.2.2.2 hb.size⟩
end Go.Proofs.YtljekdpgjaahjaaGreatDoor

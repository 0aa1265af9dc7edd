/- Digits in base 10, the least first: plain. (Printed from the limbs' theory.) -/
import Derived.Test.YtljekdpgjaahjaaGreatDoorG4
import Derived.Test.YtljekdpgjaahjaaGreatDoorG1
import Derived.Test.YtljekdpgjaahjaaGreatDoorG2
import Derived.Test.YtljekdpgjaahjaaGreatDoorG3
import Derived.Deep.QuietTactic
import Derived.BigQuiet
namespace Go.Proofs.YtljekdpgjaahjaaGreatDoor
namespace Num
def lw:List Nat→Nat
 |[]=>0
 |x :: t=>x+10*lw t
def ns (n:Nat):List Nat:=if _h:n=0 then [] else n % 10 :: ns (n / 10)
termination_by n
decreasing_by omega
def digl (xs:List Nat):Prop:=∀ x ∈ xs,x<10
theorem ns_zero:ns 0=[]:=by rw [ns];simp
theorem ns_pos {n:Nat} (h:n≠0):ns n=n % 10 :: ns (n / 10):=by rw [ns];simp [h]
theorem lw_ns (n:Nat):lw (ns n)=n:=by
 induction n using Nat.strongRecOn with
 |_ n ih =>
  by_cases h:n=0
  ·subst h;rw [ns_zero];rfl
  ·rw [ns_pos h,lw,ih _ (by omega)];omega
theorem digl_ns (n:Nat):digl (ns n):=by
 induction n using Nat.strongRecOn with
 |_ n ih =>
  by_cases h:n=0
  ·subst h;rw [ns_zero];intro x hx;cases hx
  ·rw [ns_pos h];intro x hx
   rcases List.mem_cons.1 hx with rfl | hx
   ·omega
   ·exact ih _ (by omega) x hx
theorem ns_inj {m n:Nat} (h:ns m=ns n):m=n:=by rw [← lw_ns m,h,lw_ns]
theorem ns_eq_nil {n:Nat}:ns n=[]↔n=0:=by
 constructor
 ·intro h;rw [← lw_ns n,h];rfl
 ·rintro rfl;exact ns_zero
theorem ns_cons (x n:Nat) (hx:x<10) (h:x≠0∨n≠0):ns (x+10*n)=x :: ns n:=by
 rw [ns_pos (by omega),show (x+10*n) % 10=x by omega,show (x+10*n) / 10=n by omega]
theorem lw_append (a b:List Nat):lw (a ++ b)=lw a+10 ^ a.length*lw b:=by
 induction a with
 |nil=>simp [lw]
 |cons x t ih =>
  rw [List.cons_append,lw,ih,lw,List.length_cons,Nat.pow_succ,Nat.mul_add,← Nat.mul_assoc,Nat.mul_comm (10 ^ t.length)]
  omega
theorem lw_lt (xs:List Nat) (h:digl xs):lw xs<10 ^ xs.length:=by
 induction xs with
 |nil=>simp [lw]
 |cons x t ih =>
  have h1:=h x (by simp)
  have h2:=ih (fun y hy=>h y (by simp [hy]))
  rw [lw,List.length_cons,Nat.pow_succ]
  omega
theorem ns_lw (xs:List Nat) (h:digl xs) (hl:xs.getLast? ≠ some 0):ns (lw xs)=xs:=by
 induction xs with
 |nil=>rw [lw,ns_zero]
 |cons x t ih =>
  have h1:=h x (by simp)
  have h2:digl t:=fun y hy=>h y (by simp [hy])
  have h3:t.getLast? ≠ some 0:=by
   cases t with
   |nil=>simp
   |cons y u=>simpa [List.getLast?_cons_cons] using hl
  have ih':=ih h2 h3
  have hx:x≠0∨lw t≠0:=by
   cases t with
   |nil=>left;simpa using hl
   |cons y u =>
    right;intro e
    rw [e,ns_zero] at ih';cases ih'
  rw [lw,ns_cons x _ h1 hx,ih']
theorem ns_last (n:Nat):(ns n).getLast? ≠ some 0:=by
 induction n using Nat.strongRecOn with
 |_ n ih =>
  by_cases h:n=0
  ·subst h;rw [ns_zero];simp
  ·rw [ns_pos h]
   by_cases h1:n / 10=0
   ·rw [h1,ns_zero];simp;omega
   ·have:=ih (n / 10) (by omega)
    cases hn:ns (n / 10) with
    |nil=>exact absurd (ns_eq_nil.1 hn) h1
    |cons y u=>rw [List.getLast?_cons_cons,← hn];exact this
theorem lw_snoc_zero (xs:List Nat):lw (xs ++ [0])=lw xs:=by rw [lw_append];simp [lw]
theorem digl_nil:digl []:=fun x hx=>by cases hx
theorem digl_append {a b:List Nat}:digl (a ++ b)↔digl a∧digl b:=by
 unfold digl;constructor
 ·intro h;exact ⟨fun x hx=>h x (by simp [hx]),fun x hx=>h x (by simp [hx])⟩
 ·rintro ⟨h1,h2⟩ x hx
  rcases List.mem_append.1 hx with h | h
  ·exact h1 x h
  ·exact h2 x h
theorem ns_length_le {n k:Nat}:(ns n).length≤k↔n<10 ^ k:=by
 induction k generalizing n with
 |zero=>simp [ns_eq_nil]
 |succ k ih =>
  by_cases h:n=0
  ·subst h;rw [ns_zero];simp;exact Nat.pow_pos (by omega)
  ·rw [ns_pos h,List.length_cons,Nat.pow_succ]
   have:=@ih (n / 10)
   constructor
   ·intro h1;have:=this.1 (by omega);omega
   ·intro h1;have:=this.2 (by omega);omega
theorem ns_length_mono {m n:Nat} (h:m≤n):(ns m).length≤(ns n).length :=
 ns_length_le.2 (Nat.lt_of_le_of_lt h (ns_length_le.1 (Nat.le_refl _)))
end Num
open Num
theorem trim_len10 (xs:List Nat) (k:Nat) (hx:digl xs) (hk:k≤xs.length) (he:lw (xs.take k)=lw xs) (h:k=0∨atN xs (k - 1)≠0):(ns (lw xs)).length=k∧xs.take k=ns (lw xs):=by
 have h1:digl (xs.take k):=fun x hx'=>hx x (List.mem_of_mem_take hx')
 have h2:(xs.take k).getLast? ≠ some 0:=by
  rcases h with rfl | h
  ·simp
  ·by_cases h0:k=0
   ·subst h0;simp
   ·rw [List.getLast?_eq_getElem?,List.length_take,Nat.min_eq_left hk,List.getElem?_take]
    rw [if_pos (by omega)]
    intro e
    apply h
    unfold atN
    rw [List.getD_eq_getElem?_getD,e];rfl
 have:=ns_lw _ h1 h2
 rw [he] at this
 rw [this]
 simp [hk]
theorem take_zero_step10 (xs:List Nat) (k:Nat) (hk:k<xs.length) (h:atN xs k=0):lw (xs.take k)=lw (xs.take (k+1)):=by
 rw [List.take_succ_eq_append_getElem hk]
 have:xs[k]=0:=by simpa [atN,hk] using h
 rw [this,lw_snoc_zero]
theorem take_ns (xs:List Nat) (hx:digl xs):xs.take (ns (lw xs)).length=ns (lw xs):=by
 have:∀ k,k≤xs.length→lw (xs.take k)=lw xs→xs.take (ns (lw xs)).length=ns (lw xs):=by
  intro k
  induction k with
  |zero=>intro hk he;have:=trim_len10 xs 0 hx hk he (.inl rfl);rw [this.1];exact this.2
  |succ k ih =>
   intro hk he
   by_cases h:atN xs k=0
   ·exact ih (by omega) (by rw [take_zero_step10 xs k (by omega) h];exact he)
   ·have:=trim_len10 xs (k+1) hx hk he (.inr (by simpa using h));rw [this.1];exact this.2
 exact this xs.length (Nat.le_refl _) (by simp)
theorem atD_lt {xs:List Nat} (h:digl xs) (k:Nat):atN xs k<10:=by
 unfold atN
 rw [List.getD_eq_getElem?_getD]
 cases hk:xs[k]? with
 |none=>simp
 |some x=>exact h x (List.mem_of_getElem? hk)
theorem lw_take_succ (xs:List Nat) (k:Nat):lw (xs.take (k+1))=lw (xs.take k)+10 ^ k*atN xs k:=by
 by_cases h:k<xs.length
 ·rw [List.take_succ_eq_append_getElem h,lw_append,List.length_take,Nat.min_eq_left (by omega)]
  simp [lw,atN,h]
 ·rw [List.take_of_length_le (by omega),List.take_of_length_le (by omega),atN_ge (by omega)];simp
theorem lw_snoc (ys:List Nat) (x:Nat):lw (ys ++ [x])=lw ys+10 ^ ys.length*x:=by
 rw [lw_append];simp [lw]
theorem digl_snoc {ys:List Nat} {x:Nat} (h:digl ys) (hx:x<10):digl (ys ++ [x]) :=
 digl_append.2 ⟨h,fun y hy=>by simp at hy;rw [hy];exact hx⟩
theorem times_step10 (xs ys:List Nat) (k m carry:Nat) (hy:ys.length=k) (h:lw ys+10 ^ k*carry=lw (xs.take k)*m) :
  lw (ys ++ [(atN xs k*m+carry) % 10])+10 ^ (k+1)*((atN xs k*m+carry) / 10)=lw (xs.take (k+1))*m:=by
 rw [lw_snoc,hy,lw_take_succ,Nat.add_mul,← h,Nat.pow_succ]
 generalize hn:atN xs k*m+carry=n
 have:10 ^ k*(n % 10)+10 ^ k*10*(n / 10)=10 ^ k*n:=by
  rw [Nat.mul_assoc,← Nat.mul_add];congr 1;omega
 rw [Nat.add_assoc,this,← hn,Nat.mul_add,Nat.mul_assoc]
 omega
theorem carry_lt10 (x m carry:Nat) (hx:x<10) (hm:m<10) (hc:carry<10):x*m+carry≤90∧(x*m+carry) / 10<10:=by
 have:x*m≤9*9:=Nat.mul_le_mul (by omega) (by omega)
 omega
theorem ns_of_len (ys:List Nat) (hy:digl ys) (h:ys.length≤(ns (lw ys)).length):ns (lw ys)=ys:=by
 have:=take_ns ys hy
 rw [← this,List.take_of_length_le h]
theorem ns_len_ge {n k:Nat} (h:10 ^ k≤n):k+1≤(ns n).length:=by
 rcases Nat.lt_or_ge k (ns n).length with h1 | h1
 ·exact h1
 ·have:=ns_length_le.1 h1;omega
theorem pow_le_of_len10 {n:Nat} (h:0<(ns n).length):10 ^ ((ns n).length - 1)≤n:=by
 rcases Nat.lt_or_ge n (10 ^ ((ns n).length - 1)) with h1 | h1
 ·have:=ns_length_le.2 h1;omega
 ·exact h1
theorem add_step10 (xs ys zs:List Nat) (k carry:Nat) (hz:zs.length=k) (h:lw zs+10 ^ k*carry=lw (xs.take k)+lw (ys.take k)) :
  lw (zs ++ [(atN xs k+atN ys k+carry) % 10])+10 ^ (k+1)*((atN xs k+atN ys k+carry) / 10)=lw (xs.take (k+1))+lw (ys.take (k+1)):=by
 rw [lw_snoc,hz,lw_take_succ,lw_take_succ,Nat.pow_succ]
 generalize hn:atN xs k+atN ys k+carry=n
 have:10 ^ k*(n % 10)+10 ^ k*10*(n / 10)=10 ^ k*n:=by
  rw [Nat.mul_assoc,← Nat.mul_add];congr 1;omega
 rw [Nat.add_assoc,this,← hn,Nat.mul_add,Nat.mul_add]
 omega
theorem sub_step10 (xs ys zs:List Nat) (k borrow d borrow':Nat) (hz:zs.length=k) (h:lw zs+lw (ys.take k)=lw (xs.take k)+10 ^ k*borrow)
  (hd:d+atN ys k+borrow=atN xs k+10*borrow') :
  lw (zs ++ [d])+lw (ys.take (k+1))=lw (xs.take (k+1))+10 ^ (k+1)*borrow':=by
 rw [lw_snoc,hz,lw_take_succ,lw_take_succ,Nat.pow_succ,Nat.mul_assoc]
 have:=congrArg (10 ^ k * ·) hd
 simp only [Nat.mul_add] at this
 omega
theorem lw_set (zs:List Nat) (j u:Nat) (hj:j<zs.length):lw (zs.set j u)+10 ^ j*atN zs j=lw zs+10 ^ j*u:=by
 have h1:=lw_append (zs.take j) (zs.drop j)
 rw [List.take_append_drop,List.length_take,Nat.min_eq_left (by omega),List.drop_eq_getElem_cons hj,lw] at h1
 rw [List.set_eq_take_append_cons_drop,if_pos hj,lw_append,List.length_take,Nat.min_eq_left (by omega),lw,h1]
 have:atN zs j=zs[j]:=by simp [atN,hj]
 rw [this]
 simp only [Nat.mul_add]
 omega
theorem digl_set {zs:List Nat} {j u:Nat} (h:digl zs) (hu:u<10):digl (zs.set j u):=by
 intro x hx
 rcases List.mem_or_eq_of_mem_set hx with h1 | h1
 ·exact h x h1
 ·omega
theorem lw_replicate (n:Nat):lw (List.replicate n 0)=0:=by
 induction n with
 |zero=>rfl
 |succ n ih=>rw [List.replicate_succ,lw,ih]
theorem digl_replicate (n:Nat):digl (List.replicate n 0):=fun x hx=>by rw [List.eq_of_mem_replicate hx];decide
theorem mul_step10 (zs ys:List Nat) (i k x carry base:Nat) (hl:i+k<zs.length)
  (h:lw zs+10 ^ (i+k)*carry=base+10 ^ i*x*lw (ys.take k)) :
  lw (zs.set (i+k) ((atN zs (i+k)+x*atN ys k+carry) % 10))+10 ^ (i+(k+1))*((atN zs (i+k)+x*atN ys k+carry) / 10) =
   base+10 ^ i*x*lw (ys.take (k+1)):=by
 have h1:=lw_set zs (i+k) ((atN zs (i+k)+x*atN ys k+carry) % 10) hl
 generalize hn:atN zs (i+k)+x*atN ys k+carry=n at *
 rw [lw_take_succ,Nat.mul_add,← Nat.add_assoc base,← h,show i+(k+1)=i+k+1 from rfl,Nat.pow_succ]
 have h2:10 ^ (i+k)*(n % 10)+10 ^ (i+k)*10*(n / 10)=10 ^ (i+k)*n:=by
  rw [Nat.mul_assoc,← Nat.mul_add];congr 1;omega
 have h3:10 ^ i*x*(10 ^ k*atN ys k)=10 ^ (i+k)*(x*atN ys k):=by
  rw [Nat.pow_add];simp only [Nat.mul_assoc,Nat.mul_left_comm,Nat.mul_comm]
 rw [h3]
 have h4:10 ^ (i+k)*n=10 ^ (i+k)*atN zs (i+k)+10 ^ (i+k)*(x*atN ys k)+10 ^ (i+k)*carry:=by
  rw [← hn,Nat.mul_add,Nat.mul_add]
 omega
theorem mul_end10 (zs xs ys:List Nat) (i carry:Nat) (hl:i+ys.length<zs.length) (hz:atN zs (i+ys.length)=0)
  (h:lw zs+10 ^ (i+ys.length)*carry=lw (xs.take i)*lw ys+10 ^ i*atN xs i*lw (ys.take ys.length)) :
  lw (zs.set (i+ys.length) carry)=lw (xs.take (i+1))*lw ys:=by
 have h1:=lw_set zs (i+ys.length) carry hl
 rw [hz,Nat.mul_zero,Nat.add_zero] at h1
 rw [h1,h,lw_take_succ,Nat.add_mul,List.take_of_length_le (Nat.le_refl _)]
theorem ns_dec:∀ n,n≠0→dec n=((ns n).map dch).reverse:=by
 intro n
 induction n using Nat.strongRecOn with
 |_ n ih =>
  intro h
  rw [ns_pos h]
  by_cases h1:n<10
  ·rw [dec_lt h1,show n / 10=0 by omega,ns_zero,show n % 10=n by omega];rfl
  ·rw [dec_ge h1,ih (n / 10) (by omega) (by omega)];simp
theorem ns_len {n:Nat} (h:n≠0):(ns n).length=(dec n).length:=by rw [ns_dec n h];simp
theorem ns_len_le (n:Nat):(ns n).length≤(dec n).length:=by
 by_cases h:n=0
 ·subst h;rw [ns_zero];simp
 ·rw [ns_len h];exact Nat.le_refl _
theorem lw_dv:∀ l:Str,lw (l.reverse.map dv)=val l:=by
 intro l
 have:∀ r:Str,lw (r.map dv)=val r.reverse:=by
  intro r
  induction r with
  |nil=>rfl
  |cons c t ih=>rw [List.map_cons,lw,ih,List.reverse_cons,val_snoc];omega
 rw [this,List.reverse_reverse]
theorem digl_dv {l:Str} (h:l.all isDig=true):digl (l.map dv):=by
 intro x hx
 obtain ⟨c,hc,rfl⟩:=List.mem_map.1 hx
 exact dv_lt (List.all_eq_true.1 h c hc)
end Go.Proofs.YtljekdpgjaahjaaGreatDoor
namespace Go.Proofs.YtljekdpgjaahjaaGreatDoor
open Go.RowKit Num
set_option linter.unusedVariables false
attribute [local go_sem] B_size B_get B_toList B_mk B_extract B_append
attribute [local go_sem high] run_max2
structure DigAt (w:World) (A:Option Addr) (c n:Nat):Prop where
 cells:Cells w A (nums (ns n))
 le:(ns n).length≤c
 cap:c≤maxLen
theorem DigAt.below {w w':World} {A:Option Addr} {c n:Nat} (h:DigAt w A c n) (hb:Below w.heap.size w w'):DigAt w' A c n:=⟨h.cells.below hb,h.le,h.cap⟩
theorem el_ints:Elem Tryz.prog 23 3 (.int .i64 0) 8:=⟨Tryz.underlying23,info_parts int_info,rfl⟩
theorem wtrim_any (xs:List Nat) (A:Option Addr) (c:Nat) (w:World) (hx:digl xs) (hl:xs.length≤c) (hm:c≤maxLen) (hc:Cells w A (nums xs)) :
  Calls Tryz.prog 150 #[.slice A xs.length c] w fun e w'=>e=.returned (.slice A (ns (lw xs)).length c)∧w'=w:=by
 unfold maxLen at hm
 by_cases h0:xs.length=0
 ·have:xs=[]:=List.eq_nil_of_length_eq_zero h0
  subst this
  have hn:(ns (lw [])).length=0:=by rw [lw,ns_zero];rfl
  rw [hn]
  go_enter Tryz.func150,Tryz.ntmps150
  go_wp2_with fail
  go_loop [3] (fun v=>v=.int .i64 0) (fun _=>0)
  case atStart=>rfl
  case round =>
   subst hrel
   go_wp2_with fail
   go_ret
   exact ⟨rfl,rfl⟩
 ·obtain ⟨b,off,rfl,hb,hcell⟩:=hc (by rw [nums_length];omega)
  have hcells:=Cells.num hcell
  go_enter Tryz.func150,Tryz.ntmps150
  go_wp2_with fail
  go_loop [3] (fun v=>∃ k:Nat,k≤xs.length∧v=.int .i64 k∧lw (xs.take k)=lw xs) (fun v=>(intOf v).toNat)
  case atStart=>exact ⟨xs.length,Nat.le_refl _,rfl,by simp⟩
  case round =>
   obtain ⟨k,hk,rfl,he⟩:=hrel
   have HE:=Lib.hid he
   clear he
   by_cases hk0:k=0
   ·subst hk0
    have HS:=Lib.hid (trim_len10 xs 0 hx hk HE.out (.inl rfl)).1
    go_wp2_with fail
    go_ret
    exact ⟨congrArg Ending.returned (by rw [HS.out];rfl),rfl⟩
   ·have hc':w.cell? ⟨b,off+(k - 1),none⟩=some (.int .i64 (atN xs (k - 1):Int)):=hcells (k - 1) (by omega)
    by_cases h1:atN xs (k - 1)=0
    ·have HS:=Lib.hid (take_zero_step10 xs (k - 1) (by omega) h1)
     have h1':((atN xs (k - 1):Int) == 0)=true:=by rw [h1];rfl
     clear h1
     go_wp2_with fail
     go_round
     case rel=>exact ⟨k - 1,by omega,by go_num,by rw [HS.out,show k - 1+1=k by omega,HE.out]⟩
     case measure=>simp [intOf];omega
    ·have HS:=Lib.hid (trim_len10 xs k hx hk HE.out (.inr h1)).1
     have h1':((atN xs (k - 1):Int) == 0)=false:=by rw [beq_eq_false_iff_ne];omega
     clear h1
     go_wp2_with fail
     go_ret
     exact ⟨congrArg Ending.returned (by rw [HS.out];rfl),rfl⟩
theorem lwT_lt {xs:List Nat} (h:digl xs) (k:Nat):lw (xs.take k)<10 ^ k:=by
 have h1:=lw_lt (xs.take k) (fun x hx=>h x (List.mem_of_mem_take hx))
 exact Nat.lt_of_lt_of_le h1 (Nat.pow_le_pow_right (by omega) (by rw [List.length_take];omega))
theorem cmp_start (xs ys:List Nat):lw xs+lw (ys.take (max xs.length ys.length))=lw ys+lw (xs.take (max xs.length ys.length)):=by
 rw [List.take_of_length_le (by omega),List.take_of_length_le (by omega)];omega
theorem cmp_step {xs ys:List Nat} {k:Nat} (h:lw xs+lw (ys.take (k+1))=lw ys+lw (xs.take (k+1))) (he:atN xs k=atN ys k):lw xs+lw (ys.take k)=lw ys+lw (xs.take k):=by
 rw [lw_take_succ,lw_take_succ,he] at h;omega
theorem cmp_less {xs ys:List Nat} {k:Nat} (hx:digl xs) (h:lw xs+lw (ys.take (k+1))=lw ys+lw (xs.take (k+1))) (he:atN xs k<atN ys k):lw xs<lw ys:=by
 rw [lw_take_succ,lw_take_succ] at h
 have h1:=lwT_lt hx k
 have h2:10 ^ k*(atN xs k+1)≤10 ^ k*atN ys k:=Nat.mul_le_mul_left _ (by omega)
 rw [Nat.mul_add] at h2
 omega
theorem ordI_lt {x y:Nat} (h:x<y):ordI x y = -1:=by unfold ordI;rw [if_pos (by omega)]
theorem ordI_gt {x y:Nat} (h:y<x):ordI x y=1:=by unfold ordI;rw [if_neg (by omega),if_pos (by omega)]
theorem ordI_eq {x y:Nat} (h:x=y):ordI x y=0:=by unfold ordI;rw [if_neg (by omega),if_neg (by omega)]
def rdig (m:Str):List Nat:=m.reverse.map dv
theorem rdig_length (m:Str):(rdig m).length=m.length:=by simp [rdig]
theorem rdig_take_succ (m:Str) (k:Nat) (h:k<m.length):(rdig m).take (k+1)=(rdig m).take k ++ [dv (at8 m (m.length - 1 - k))]:=by
 rw [List.take_succ_eq_append_getElem (by rw [rdig_length];exact h)]
 congr 2
 simp only [rdig,List.getElem_map,List.getElem_reverse]
 rw [at8_eq m _ (by omega)]
theorem digl_rdig {m:Str} (h:m.all isDig=true):digl (rdig m):=digl_dv (by rw [List.all_reverse];exact h)
theorem neg_at {l:Str} (h:neg? l=true):at8 l 0=45∧0<l.length∧mag l=l.drop 1:=by
 unfold neg? at h
 cases l with
 |nil=>simp at h
 |cons c t=>simp at h;subst h;exact ⟨rfl,by simp,rfl⟩
theorem neg_not {l:Str} (h:neg? l=false):mag l=l∧(0<l.length→at8 l 0≠45):=by
 refine ⟨by unfold mag;rw [h];rfl,?_⟩
 unfold neg? at h
 cases l with
 |nil=>simp
 |cons c t=>simp at h;intro _;exact h
theorem at8_drop (l:Str) (j:Nat):at8 (l.drop 1) j=at8 l (j+1):=by
 unfold at8;simp [List.getD]
set_option maxHeartbeats 1000000 in
theorem wparts_any (l:List UInt8) (w:World) (hl:l.length≤1000000) (h:rightI l=true) :
  Calls Tryz.prog 127 #[.string (B l)] w fun e w'=>∃ A c,e=.returned (.tuple #[.bool (neg? l),.slice A (ns (val (mag l))).length c])∧DigAt w' A c (val (mag l))∧Below w.heap.size w w':=by
 have hr:=right_mag h
 have hall:=right_all hr
 have hml:=mag_length l
 have hpos:0<l.length:=by
  have:=List.length_pos_iff.2 (right_ne hr);omega
 have hD:=digl_rdig hall
 have HLW:=Lib.hid (show lw (rdig (mag l))=val (mag l) from lw_dv _)
 have HTS:=Lib.hid (rdig_take_succ (mag l))
 have HRL:=Lib.hid (rdig_length (mag l))
 have loop:∀ (f:Nat) (g:Bool),(f=0∨f=1)→l.length=(mag l).length+f→(((at8 l 0).toNat:Int) == 45)=g→neg? l=g→(f=1→((at8 l 0).toNat:Int)=45)→(∀ j,j<(mag l).length→at8 (mag l) j=at8 l (j+f)) →
   Calls Tryz.prog 127 #[.string (B l)] w fun e w'=>∃ A c,e=.returned (.tuple #[.bool (neg? l),.slice A (ns (val (mag l))).length c])∧DigAt w' A c (val (mag l))∧Below w.heap.size w w':=by
  intro f g hf hlen h45 hneg hone hat
  have HLEN:=Lib.hid hlen
  have HNEG:=Lib.hid hneg
  have HAT:=Lib.hid hat
  have HONE:=Lib.hid hone
  have hdig:=Lib.hid (fun j (hj:j<(mag l).length)=>dig_of_all hall hj)
  generalize hmm:mag l=m at *
  have hb1:l.length≤m.length+f:=by omega
  have hb2:m.length+f≤l.length:=by omega
  clear hlen hneg hat hone hall hr hmm
  go_enter Tryz.func127,Tryz.ntmps127
  go_wp2_with fail
  go_loopw [4,6] (fun v i wr=>∃ (k n:Nat) (A:Option Addr) (c:Nat),k≤l.length∧i=.int .i64 ((l.length:Int) - 1 - k)∧v=.slice A n c∧OwnS wr w.heap.size 3 A n c (nums ((rdig m).take k))∧Below w.heap.size w wr) (fun _ i _=>(intOf i+1).toNat)
  case atStart=>exact ⟨0,0,none,0,by omega,by go_num,rfl,OwnS.nil _ _ _,Below.refl _ _⟩
  case round =>
   obtain ⟨k,n,A,c,hk,rfl,rfl,hown,hbel⟩:=hrel
   have hn:n=min k m.length:=by have:=hown.len;rw [nums_length,List.length_take,HRL.out] at this;exact this.symm
   have hn1:n≤m.length:=by omega
   have hn2:k≤m.length→n=k:=by omega
   have HN:=Lib.hid hn2
   clear hn hn2
   by_cases hlt:k<l.length
   ·obtain ⟨j,hj⟩:∃ j:Nat,j+k+1=l.length:=⟨l.length - 1 - k,by omega⟩
    have e0:(l.length:Int) - 1 - (k:Int)=(j:Int):=by omega
    have hjl:j<l.length:=by omega
    have hjk:l.length=j+k+1:=hj.symm
    have HJ:=Lib.hid hjk
    rw [e0]
    clear hj e0 hjk
    by_cases hkm:k<m.length
    ·have HTS1:=Lib.hid (HTS.out k hkm)
     have hdj:=hdig.out (m.length - 1 - k) (by omega)
     have ha1:at8 m (m.length - 1 - k)=at8 l j:=by
      rw [HAT.out _ (by omega)];congr 1;have:=HJ.out;omega
     rw [ha1] at hdj
     have HA1:=Lib.hid ha1
     have hnk:=HN.out (by omega)
     subst hnk
     clear ha1
     have hne:(((at8 l j).toNat:Int) != 45)=true:=by simp;omega
     have hd1:48≤((at8 l j).toNat:Int):=by omega
     have hd2:((at8 l j).toNat:Int)≤57:=by omega
     go_wp2_with (at_builtin;refine wp_app1 el_ints rfl _ _ rfl w.heap.size _ _ _ _ _ _ rfl hown rfl rfl (by unfold maxLen;omega) (by omega) hbel.size ?_;intro A2 c2 w1 hown1 hb1)
     go_roundw
     case rel =>
      refine ⟨n+1,n+1,A2,c2,by omega,?_,rfl,?_,hbel.trans hb1⟩
      ·have:=HJ.out;go_num
      ·rw [HTS1.out,nums_snoc,HA1.out]
       have e:((dv (at8 l j):Nat):Int)=((at8 l j).toNat:Int) - 48:=by unfold dv;omega
       rw [e];exact hown1
     case measure=>simp [intOf]
    ·have hj0:j=0:=by have:=HJ.out;omega
     subst hj0
     have hf1:f=1:=by have:=HJ.out;omega
     have hne:(((at8 l 0).toNat:Int) != 45)=false:=by rw [HONE.out hf1];rfl
     have HTE:=Lib.hid (show (rdig m).take (k+1)=(rdig m).take k by rw [List.take_of_length_le (by rw [HRL.out];omega),List.take_of_length_le (by rw [HRL.out];omega)])
     clear h45
     go_wp2_with fail
     go_roundw
     case rel =>
      refine ⟨k+1,n,A,c,by omega,?_,rfl,by rw [HTE.out];exact hown,hbel⟩
      have:=HJ.out;go_num
     case measure=>simp [intOf]
   ·have HTE:=Lib.hid (show (rdig m).take k=rdig m from List.take_of_length_le (by rw [HRL.out];omega))
    rw [HTE.out] at hown
    have hnl:n=(rdig m).length:=by have:=hown.len;rw [nums_length] at this;exact this.symm
    have hcap:=hown.cap
    subst hnl
    have hi0:(l.length:Int) - 1 - (k:Int)<0:=by omega
    have hD':=hD
    have hW:=wtrim_any (rdig m) A c wr hD hcap.1 hcap.2 hown.cells
    rw [HLW.out] at hW
    have hle:(ns (val m)).length≤(rdig m).length:=by
     rw [← HLW.out]
     have:=congrArg List.length (take_ns (rdig m) hD)
     rw [List.length_take] at this;omega
    have hcells:Cells wr A (nums (ns (val m))):=by
     rw [← HLW.out,← take_ns (rdig m) hD]
     have:=hown.cells.take (ns (lw (rdig m))).length
     unfold nums at this ⊢
     rw [← List.map_take] at this
     exact this
    clear hD'
    go_wp2_with fail
    refine hW.mono ?_;rintro e w' ⟨rfl,rfl⟩
    go_wp2_with fail
    go_ret2
    exact ⟨A,c,by rw [HNEG.out];rfl,⟨hcells,by omega,hcap.2⟩,hbel⟩
 cases hn:neg? l
 ·have h1:=neg_not hn
  rw [← hn]
  refine loop 0 false (.inl rfl) (by rw [h1.1];rfl) ?_ hn (by omega) (fun j _=>by rw [h1.1];rfl)
  have:=h1.2 hpos
  rw [beq_eq_false_iff_ne]
  intro e;apply this;apply UInt8.toNat_inj.1;simp;omega
 ·have h1:=neg_at hn
  rw [← hn]
  refine loop 1 true (.inr rfl) (by rw [h1.2.2,List.length_drop];omega) (by rw [h1.1];rfl) hn (fun _=>by rw [h1.1];rfl) (fun j _=>by rw [h1.2.2,at8_drop])
theorem bytes_snoc (l:List UInt8) (c:UInt8):bytes (l ++ [c])=bytes l ++ [.int .u8 (c.toNat:Int)]:=by simp [bytes]
theorem text_step (ys:List Nat) (j:Nat) (h:j<ys.length):((ys.drop j).map dch).reverse=((ys.drop (j+1)).map dch).reverse ++ [dch (atN ys j)]:=by
 rw [List.drop_eq_getElem_cons h,List.map_cons,List.reverse_cons];simp [atN,h]
theorem atD_mem {xs:List Nat} (h:digl xs) (k:Nat):atN xs k<10:=atD_lt h k
set_option maxHeartbeats 1000000 in
theorem wtext_any (neg:Bool) (xs:List Nat) (A:Option Addr) (c:Nat) (w:World) (hx:digl xs) (hl0:xs.length≤1000000) (hl:xs.length≤c) (hm:c≤maxLen) (hc:Cells w A (nums xs)) :
  Calls Tryz.prog 128 #[.bool neg,.slice A xs.length c] w fun e w'=>e=.returned (.string (B (decI (sg neg (lw xs)))))∧Below w.heap.size w w':=by
 have hW:=Lib.hid (wtrim_any xs A c w hx hl hm hc)
 have hle:(ns (lw xs)).length≤xs.length:=by
  have:=congrArg List.length (take_ns xs hx)
  rw [List.length_take] at this;omega
 have hcells:Cells w A (nums (ns (lw xs))):=by
  rw [← take_ns xs hx]
  have:=hc.take (ns (lw xs)).length
  unfold nums at this ⊢
  rw [← List.map_take] at this
  exact this
 have hy:=digl_ns (lw xs)
 have HD:=Lib.hid (ns_dec (lw xs))
 have HZ:=Lib.hid (@ns_eq_nil (lw xs))
 have hS0:=Lib.hid (show lw xs=0→decI (sg neg (lw xs))=[48] from fun h=>by rw [h,sg_zero];exact decI_zero)
 have hSp:=Lib.hid (show lw xs≠0→decI (sg neg (lw xs))=(if neg=true then [45] else []) ++ dec (lw xs) from fun h=>by
  cases neg
  ·rw [decI_sg_false];rfl
  ·rw [decI_sg_pos h];rfl)
 generalize lw xs=v at *
 generalize hn:ns v=ys at *
 have HN:=Lib.hid hn
 clear hn
 by_cases h0:ys.length=0
 ·have hys:ys=[]:=List.eq_nil_of_length_eq_zero h0
  subst hys
  have hv:v=0:=HZ.out.1 rfl
  have HR:=Lib.hid (hS0.out hv)
  clear hv h0 hcells
  go_enter Tryz.func128,Tryz.ntmps128
  go_wp2_with fail
  refine hW.out.mono ?_;rintro e w' ⟨rfl,rfl⟩
  go_wp2_with fail
  go_ret
  exact ⟨ret_str HR.out.symm,Below.refl _ _⟩
 ·have hv:v≠0:=fun e=>h0 (by rw [HZ.out.2 e];rfl)
  have HR:=Lib.hid (hSp.out hv)
  have HD':=Lib.hid (HD.out hv)
  clear hv
  have hpos:0<ys.length:=by omega
  have hne:((ys.length:Int) == 0)=false:=by rw [beq_eq_false_iff_ne];omega
  obtain ⟨b,off,rfl,hb,hcell⟩:=hcells (by rw [nums_length];omega)
  have hcl:=Cells.num hcell
  clear h0 hcell hc
  cases neg
  ·go_enter Tryz.func128,Tryz.ntmps128
   go_wp2_with fail
   refine hW.out.mono ?_;rintro e w' ⟨rfl,h⟩
   obtain rfl:=h.symm
   go_wp2_with fail
   go_loopw [5,6] (fun s i wr=>∃ (k m:Nat) (A2:Option Addr) (c2:Nat),k≤ys.length∧i=.int .i64 ((k:Int) - 1)∧s=.slice A2 m c2∧m+k=ys.length∧OwnS wr w.heap.size 5 A2 m c2 (bytes (((ys.drop k).map dch).reverse))∧Below w.heap.size w wr) (fun _ i _=>(intOf i+1).toNat)
   case atStart=>exact ⟨ys.length,0,none,0,Nat.le_refl _,rfl,rfl,by omega,by rw [List.drop_of_length_le (Nat.le_refl _)];exact OwnS.nil _ _ _,Below.refl _ _⟩
   case round =>
    obtain ⟨k,m,A2,c2,hk,rfl,rfl,hmk,hown,hbel⟩:=hrel
    have hmk1:m+k≤ys.length:=by omega
    have hmk2:ys.length≤m+k:=by omega
    clear hmk
    by_cases hk0:k=0
    ·subst hk0
     have hmm:0<m:=by omega
     obtain ⟨g,rfl,hg1,hg2,_,_⟩:=hown.at_ hmm
     have hlm:=hown.len
     rw [bytes_length] at hlm
     have kc:=conv_bytes g m c2 _ _ wr hlm hown
     rw [List.drop_zero] at kc
     have KC:=Lib.hid (show ((ys.map dch).reverse)=decI (sg false v) by rw [HR.out,HD'.out];rfl)
     rw [KC.out] at kc
     clear hlm
     go_wp2_with fail
     go_ret
     exact ⟨rfl,hbel⟩
    ·obtain ⟨j,rfl⟩:∃ j,k=j+1:=⟨k - 1,by omega⟩
     rw [show ((j+1:Nat):Int) - 1=(j:Int) from by omega]
     have hcj:wr.cell? ⟨b,off+j,none⟩=some (.int .i64 (atN ys j:Int)):=(hbel.cell (p:=⟨b,off+j,none⟩) hb).trans (hcl j (by omega))
     have hdj:=atD_lt hy j
     have HS:=Lib.hid (text_step ys j (by omega))
     clear hk0
     go_wp2_with (at_builtin;refine wp_app1 el_byte rfl _ _ rfl w.heap.size _ _ _ _ _ _ rfl hown rfl rfl (by unfold maxLen;omega) (by omega) hbel.size ?_;intro A3 c3 w3 hown3 hb3)
     go_roundw
     case rel =>
      refine ⟨j,m+1,A3,c3,by omega,rfl,rfl,by omega,?_,hbel.trans hb3⟩
      rw [HS.out,bytes_snoc,dch_toNat hdj]
      have e:((48+atN ys j:Nat):Int)=48+(atN ys j:Int):=by omega
      rw [e];exact hown3
     case measure=>simp [intOf]
  ·go_enter Tryz.func128,Tryz.ntmps128
   go_wp2_with fail
   refine hW.out.mono ?_;rintro e w' ⟨rfl,h⟩
   obtain rfl:=h.symm
   go_wp2_with (at_builtin;refine wp_app1 el_byte rfl _ _ rfl w.heap.size _ _ _ _ _ _ rfl (OwnS.nil _ _ _) rfl rfl (by unfold maxLen;omega) (by omega) (Nat.le_refl _) ?_;intro A1 c1 w1 hown1 hb1)
   have hp0:OwnS w1 w.heap.size 5 A1 1 c1 (bytes [45]):=hown1
   clear hown1
   go_loopw [5,6] (fun s i wr=>∃ (k m:Nat) (A2:Option Addr) (c2:Nat),k≤ys.length∧i=.int .i64 ((k:Int) - 1)∧s=.slice A2 m c2∧m+k=ys.length+1∧OwnS wr w.heap.size 5 A2 m c2 (bytes ([45] ++ ((ys.drop k).map dch).reverse))∧Below w.heap.size w wr) (fun _ i _=>(intOf i+1).toNat)
   case atStart=>exact ⟨ys.length,1,A1,c1,Nat.le_refl _,rfl,rfl,by omega,by rw [List.drop_of_length_le (Nat.le_refl _)];exact hp0,hb1⟩
   case round =>
    obtain ⟨k,m,A2,c2,hk,rfl,rfl,hmk,hown,hbel⟩:=hrel
    have hmk1:m+k≤ys.length+1:=by omega
    have hmk2:ys.length+1≤m+k:=by omega
    clear hmk hp0 hb1
    by_cases hk0:k=0
    ·subst hk0
     have hmm:0<m:=by omega
     obtain ⟨g,rfl,hg1,hg2,_,_⟩:=hown.at_ hmm
     have hlm:=hown.len
     rw [bytes_length] at hlm
     have kc:=conv_bytes g m c2 _ _ wr hlm hown
     rw [List.drop_zero] at kc
     have KC:=Lib.hid (show [45] ++ ((ys.map dch).reverse)=decI (sg true v) by rw [HR.out,HD'.out];rfl)
     rw [KC.out] at kc
     clear hlm
     go_wp2_with fail
     go_ret
     exact ⟨rfl,hbel⟩
    ·obtain ⟨j,rfl⟩:∃ j,k=j+1:=⟨k - 1,by omega⟩
     rw [show ((j+1:Nat):Int) - 1=(j:Int) from by omega]
     have hcj:wr.cell? ⟨b,off+j,none⟩=some (.int .i64 (atN ys j:Int)):=(hbel.cell (p:=⟨b,off+j,none⟩) hb).trans (hcl j (by omega))
     have hdj:=atD_lt hy j
     have HS:=Lib.hid (text_step ys j (by omega))
     clear hk0
     go_wp2_with (at_builtin;refine wp_app1 el_byte rfl _ _ rfl w.heap.size _ _ _ _ _ _ rfl hown rfl rfl (by unfold maxLen;omega) (by omega) hbel.size ?_;intro A3 c3 w3 hown3 hb3)
     go_roundw
     case rel =>
      refine ⟨j,m+1,A3,c3,by omega,rfl,rfl,by omega,?_,hbel.trans hb3⟩
      rw [HS.out,← List.append_assoc,bytes_snoc,dch_toNat hdj]
      have e:((48+atN ys j:Nat):Int)=48+(atN ys j:Int):=by omega
      rw [e];exact hown3
     case measure=>simp [intOf]
theorem isDig_no1 {c:UInt8} (h:c.toNat<48):isDig c=false:=by unfold isDig;simp;omega
theorem isDig_no2 {c:UInt8} (h:57<c.toNat):isDig c=false:=by unfold isDig;simp;omega
theorem isDig_yes {c:UInt8} (h:48≤c.toNat) (h2:c.toNat≤57):isDig c=true:=by unfold isDig;simp;omega
theorem all_drop_no {l:Str} {f k:Nat} (h1:f≤k) (h2:k<l.length) (h3:isDig (at8 l k)=false):(l.drop f).all isDig=false:=by
 rw [List.all_eq_false]
 refine ⟨l[k],?_,by rw [← at8_eq l k h2,h3];simp⟩
 rw [List.mem_drop_iff_getElem]
 exact ⟨k - f,by omega,by congr 1;omega⟩
theorem all_drop_snoc {l:Str} {f k:Nat} (h1:f≤k) (h2:k<l.length) (h3:((l.take k).drop f).all isDig=true) (h4:isDig (at8 l k)=true):((l.take (k+1)).drop f).all isDig=true:=by
 rw [List.take_succ_eq_append_getElem h2,List.drop_append_of_le_length (by rw [List.length_take];omega),List.all_append,h3]
 simpa [at8_eq l k h2] using h4
theorem head_drop {l:Str} {f:Nat} (h:f<l.length):(l.drop f).head? = some (at8 l f):=by
 rw [List.drop_eq_getElem_cons h,at8_eq l f h];rfl
set_option maxHeartbeats 1000000 in
theorem wright_ref_0 (l:List UInt8) (w:World) (hs:l.length≤maxLen) (hn:neg? l=false) :
  Calls Tryz.prog 97 #[.string (B l)] w fun e w'=>e=.returned (.bool (rightI l))∧w'=w:=by
 unfold maxLen at hs
 have hmag:mag l=l.drop 0:=by exact (neg_not hn).1
 have N1:=Lib.hid (@rightI_no_empty l)
 have N2:=Lib.hid (@rightI_no_zero l)
 have N3:=Lib.hid (@rightI_no_digit l)
 have Y:=Lib.hid (@rightI_yes l)
 rw [hmag] at N1 N2 N3 Y
 have h45:0<l.length→(((at8 l 0).toNat:Int) == 45)=false:=by
  intro hp
  have:=(neg_not hn).2 hp
  rw [beq_eq_false_iff_ne];intro e;exact this (UInt8.toNat_inj.1 (by simp;omega))
 by_cases hend:l.length≤0
 ·have HR:=Lib.hid (N1.out (List.drop_of_length_le hend))
  have hl0:l=[]:=List.eq_nil_of_length_eq_zero (by omega)
  subst hl0
  clear h45 hend hmag hn
  go_enter Tryz.func97,Tryz.ntmps97
  go_wp2_with fail
  go_ret
  exact ⟨ret_bool HR.out.symm,rfl⟩
 ·have hp:0<l.length:=by omega
  have h45':=h45 hp
  have hfl:0<l.length:=by omega
  have hL:((l.length:Int) == 0)=false:=by rw [beq_eq_false_iff_ne];omega
  have HH:=Lib.hid (head_drop hfl)
  clear h45 hend hmag hn
  go_enter Tryz.func97,Tryz.ntmps97
  go_wp2_with fail
  go_loop [4] (fun i=>∃ k:Nat,0≤k∧k≤l.length∧i=.int .i64 k∧((l.take k).drop 0).all isDig=true) (fun i=>l.length - (intOf i).toNat)
  case atStart=>exact ⟨0,Nat.le_refl _,by omega,rfl,by rw [List.drop_of_length_le (by rw [List.length_take];omega)];rfl⟩
  case round =>
   obtain ⟨k,hfk,hk,rfl,hall⟩:=hrel
   have HA:=Lib.hid hall
   clear hall
   by_cases hlt:k<l.length
   ·by_cases h1:(at8 l k).toNat<48
    ·have HR:=Lib.hid (N3.out (all_drop_no hfk hlt (isDig_no1 h1)))
     have h1':((at8 l k).toNat:Int)<48:=by omega
     clear h1
     go_wp2_with fail
     go_ret
     exact ⟨ret_bool HR.out.symm,rfl⟩
    ·have h1':¬ ((at8 l k).toNat:Int)<48:=by omega
     by_cases h2:57<(at8 l k).toNat
     ·have HR:=Lib.hid (N3.out (all_drop_no hfk hlt (isDig_no2 h2)))
      have h2':57<((at8 l k).toNat:Int):=by omega
      clear h1 h2
      go_wp2_with fail
      go_ret
      exact ⟨ret_bool HR.out.symm,rfl⟩
     ·have HS:=Lib.hid (all_drop_snoc hfk hlt HA.out (isDig_yes (by omega) (by omega)))
      have h2':¬ 57<((at8 l k).toNat:Int):=by omega
      clear h1 h2
      go_wp2_with fail
      go_round
      case rel=>exact ⟨k+1,by omega,by omega,by go_num,HS.out⟩
      case measure=>simp [intOf];omega
   ·obtain rfl:k=l.length:=by omega
    have had:(l.drop 0).all isDig=true:=by have:=HA.out;rwa [List.take_of_length_le (Nat.le_refl _)] at this
    have hdne:l.drop 0≠[]:=by intro e;have:=congrArg List.length e;rw [List.length_drop,List.length_nil] at this;omega
    by_cases hz:at8 l 0=48
    ·have hz':(((at8 l 0).toNat:Int) != 48)=false:=by rw [hz];rfl
     by_cases hl:l=[48]
     ·have HR:=Lib.hid (Y.out hdne (.inr hl) had)
      have hl':(l == [48])=true:=by simpa using hl
      clear hz hl had hdne
      go_wp2_with fail
      go_ret
      exact ⟨ret_bool HR.out.symm,rfl⟩
     ·have HR:=Lib.hid (N2.out (by rw [HH.out,hz]) hl)
      have hl':(l == [48])=false:=by simpa using hl
      clear hz hl had hdne
      go_wp2_with fail
      go_ret
      exact ⟨ret_bool HR.out.symm,rfl⟩
    ·have hz':(((at8 l 0).toNat:Int) != 48)=true:=by
      have:((at8 l 0).toNat:Int)≠48:=fun e=>hz (UInt8.toNat_inj.1 (by simp;omega))
      simpa using this
     have HR:=Lib.hid (Y.out hdne (.inl (by rw [HH.out];simpa using hz)) had)
     clear hz had hdne
     go_wp2_with fail
     go_ret
     exact ⟨ret_bool HR.out.symm,rfl⟩
set_option maxHeartbeats 1000000 in
theorem wright_ref_1 (l:List UInt8) (w:World) (hs:l.length≤maxLen) (hn:neg? l=true) :
  Calls Tryz.prog 97 #[.string (B l)] w fun e w'=>e=.returned (.bool (rightI l))∧w'=w:=by
 unfold maxLen at hs
 have hmag:mag l=l.drop 1:=by exact (neg_at hn).2.2
 have N1:=Lib.hid (@rightI_no_empty l)
 have N2:=Lib.hid (@rightI_no_zero l)
 have N3:=Lib.hid (@rightI_no_digit l)
 have Y:=Lib.hid (@rightI_yes l)
 rw [hmag] at N1 N2 N3 Y
 have h45:0<l.length→(((at8 l 0).toNat:Int) == 45)=true:=by
  intro hp
  rw [(neg_at hn).1];rfl
 by_cases hend:l.length≤1
 ·have HR:=Lib.hid (N1.out (List.drop_of_length_le hend))
  have hp:=(neg_at hn).2.1
  have h45':=h45 hp
  have hL:((l.length:Int) == 1)=true:=by simp;omega
  clear h45 hend hmag hn
  go_enter Tryz.func97,Tryz.ntmps97
  go_wp2_with fail
  go_ret
  exact ⟨ret_bool HR.out.symm,rfl⟩
 ·have hp:0<l.length:=by omega
  have h45':=h45 hp
  have hfl:1<l.length:=by omega
  have hL:((l.length:Int) == 1)=false:=by rw [beq_eq_false_iff_ne];omega
  have HH:=Lib.hid (head_drop hfl)
  clear h45 hend hmag hn
  go_enter Tryz.func97,Tryz.ntmps97
  go_wp2_with fail
  go_loop [4] (fun i=>∃ k:Nat,1≤k∧k≤l.length∧i=.int .i64 k∧((l.take k).drop 1).all isDig=true) (fun i=>l.length - (intOf i).toNat)
  case atStart=>exact ⟨1,Nat.le_refl _,by omega,rfl,by rw [List.drop_of_length_le (by rw [List.length_take];omega)];rfl⟩
  case round =>
   obtain ⟨k,hfk,hk,rfl,hall⟩:=hrel
   have HA:=Lib.hid hall
   clear hall
   by_cases hlt:k<l.length
   ·by_cases h1:(at8 l k).toNat<48
    ·have HR:=Lib.hid (N3.out (all_drop_no hfk hlt (isDig_no1 h1)))
     have h1':((at8 l k).toNat:Int)<48:=by omega
     clear h1
     go_wp2_with fail
     go_ret
     exact ⟨ret_bool HR.out.symm,rfl⟩
    ·have h1':¬ ((at8 l k).toNat:Int)<48:=by omega
     by_cases h2:57<(at8 l k).toNat
     ·have HR:=Lib.hid (N3.out (all_drop_no hfk hlt (isDig_no2 h2)))
      have h2':57<((at8 l k).toNat:Int):=by omega
      clear h1 h2
      go_wp2_with fail
      go_ret
      exact ⟨ret_bool HR.out.symm,rfl⟩
     ·have HS:=Lib.hid (all_drop_snoc hfk hlt HA.out (isDig_yes (by omega) (by omega)))
      have h2':¬ 57<((at8 l k).toNat:Int):=by omega
      clear h1 h2
      go_wp2_with fail
      go_round
      case rel=>exact ⟨k+1,by omega,by omega,by go_num,HS.out⟩
      case measure=>simp [intOf];omega
   ·obtain rfl:k=l.length:=by omega
    have had:(l.drop 1).all isDig=true:=by have:=HA.out;rwa [List.take_of_length_le (Nat.le_refl _)] at this
    have hdne:l.drop 1≠[]:=by intro e;have:=congrArg List.length e;rw [List.length_drop,List.length_nil] at this;omega
    by_cases hz:at8 l 1=48
    ·have hz':(((at8 l 1).toNat:Int) != 48)=false:=by rw [hz];rfl
     by_cases hl:l=[48]
     ·have HR:=Lib.hid (Y.out hdne (.inr hl) had)
      have hl':(l == [48])=true:=by simpa using hl
      clear hz hl had hdne
      go_wp2_with fail
      go_ret
      exact ⟨ret_bool HR.out.symm,rfl⟩
     ·have HR:=Lib.hid (N2.out (by rw [HH.out,hz]) hl)
      have hl':(l == [48])=false:=by simpa using hl
      clear hz hl had hdne
      go_wp2_with fail
      go_ret
      exact ⟨ret_bool HR.out.symm,rfl⟩
    ·have hz':(((at8 l 1).toNat:Int) != 48)=true:=by
      have:((at8 l 1).toNat:Int)≠48:=fun e=>hz (UInt8.toNat_inj.1 (by simp;omega))
      simpa using this
     have HR:=Lib.hid (Y.out hdne (.inl (by rw [HH.out];simpa using hz)) had)
     clear hz had hdne
     go_wp2_with fail
     go_ret
     exact ⟨ret_bool HR.out.symm,rfl⟩
theorem wright_ref_any (l:List UInt8) (w:World) (hs:l.length≤maxLen) :
  Calls Tryz.prog 97 #[.string (B l)] w fun e w'=>e=.returned (.bool (rightI l))∧w'=w:=by
 cases h:neg? l
 ·exact wright_ref_0 l w hs h
 ·exact wright_ref_1 l w hs h
theorem wdigits_any (l:List UInt8) (w:World) (hs:l.length≤maxLen) :
  Calls Tryz.prog 149 #[.string (B l)] w fun e w'=>e=.returned (.int .i64 ((mag l).length:Int))∧w'=w:=by
 unfold maxLen at hs
 cases hn:neg? l
 ·have h1:=neg_not hn
  rw [h1.1]
  by_cases h0:l=[]
  ·subst h0
   clear h1 hn
   go_enter Tryz.func149,Tryz.ntmps149
   go_wp2_with fail
   go_ret
   exact ⟨rfl,rfl⟩
  ·have hp:0<l.length:=List.length_pos_iff.2 h0
   have h45:(((at8 l 0).toNat:Int) == 45)=false:=by
    have:=h1.2 hp
    rw [beq_eq_false_iff_ne];intro e;exact this (UInt8.toNat_inj.1 (by simp;omega))
   clear h0 h1 hn
   go_enter Tryz.func149,Tryz.ntmps149
   go_wp2_with fail
   go_ret
   exact ⟨rfl,rfl⟩
 ·have h1:=neg_at hn
  have hp:=h1.2.1
  have h45:(((at8 l 0).toNat:Int) == 45)=true:=by rw [h1.1];rfl
  have HM:=Lib.hid (show ((l.length:Int) - 1)=((mag l).length:Int) by rw [h1.2.2,List.length_drop];omega)
  clear h1 hn
  go_enter Tryz.func149,Tryz.ntmps149
  go_wp2_with fail
  go_ret
  exact ⟨ret_int HM.out,rfl⟩
theorem wcheck_any (a b:List UInt8) (w:World) (ha:a.length≤maxLen) (hb:b.length≤maxLen) :
  Calls Tryz.prog 126 #[.string (B a),.string (B b)] w fun e w'=>e=.returned (.int .i64 (errI a b))∧w'=w:=by
 have hma:=mag_length a
 have hmb:=mag_length b
 cases h1:rightI a
 ·have HR:=Lib.hid (show errI a b=3 by rw [errI,if_neg (by simp [h1])])
  go_enter Tryz.func126,Tryz.ntmps126
  go_wp2_with fail
  refine (wright_ref_any _ _ ha).mono ?_;rintro e w' ⟨rfl,rfl⟩
  go_wp2_with fail
  go_ret
  exact ⟨ret_int HR.out.symm,rfl⟩
 ·cases h2:rightI b
  ·have HR:=Lib.hid (show errI a b=3 by rw [errI,if_neg (by simp [h2])])
   go_enter Tryz.func126,Tryz.ntmps126
   go_wp2_with fail
   refine (wright_ref_any _ _ ha).mono ?_;rintro e w' ⟨rfl,rfl⟩
   go_wp2_with fail
   refine (wright_ref_any _ _ hb).mono ?_;rintro e w' ⟨rfl,rfl⟩
   go_wp2_with fail
   go_ret
   exact ⟨ret_int HR.out.symm,rfl⟩
  ·have ha':=ha
   have hb':=hb
   unfold maxLen at ha' hb'
   by_cases h4:4096<(mag a).length
   ·have HR:=Lib.hid (show errI a b=4 by rw [errI,if_pos ⟨h1,h2⟩,if_neg (by omega)])
    go_enter Tryz.func126,Tryz.ntmps126
    go_wp2_with fail
    refine (wright_ref_any _ _ ha).mono ?_;rintro e w' ⟨rfl,rfl⟩
    go_wp2_with fail
    refine (wright_ref_any _ _ hb).mono ?_;rintro e w' ⟨rfl,rfl⟩
    go_wp2_with fail
    refine (wdigits_any _ _ ha).mono ?_;rintro e w' ⟨rfl,rfl⟩
    go_wp2_with fail
    go_ret
    exact ⟨ret_int HR.out.symm,rfl⟩
   ·by_cases h5:4096<(mag b).length
    ·have HR:=Lib.hid (show errI a b=4 by rw [errI,if_pos ⟨h1,h2⟩,if_neg (by omega)])
     go_enter Tryz.func126,Tryz.ntmps126
     go_wp2_with fail
     refine (wright_ref_any _ _ ha).mono ?_;rintro e w' ⟨rfl,rfl⟩
     go_wp2_with fail
     refine (wright_ref_any _ _ hb).mono ?_;rintro e w' ⟨rfl,rfl⟩
     go_wp2_with fail
     refine (wdigits_any _ _ ha).mono ?_;rintro e w' ⟨rfl,rfl⟩
     go_wp2_with fail
     refine (wdigits_any _ _ hb).mono ?_;rintro e w' ⟨rfl,rfl⟩
     go_wp2_with fail
     go_ret
     exact ⟨ret_int HR.out.symm,rfl⟩
    ·have HR:=Lib.hid (show errI a b=0 by rw [errI,if_pos ⟨h1,h2⟩,if_pos (by omega)])
     go_enter Tryz.func126,Tryz.ntmps126
     go_wp2_with fail
     refine (wright_ref_any _ _ ha).mono ?_;rintro e w' ⟨rfl,rfl⟩
     go_wp2_with fail
     refine (wright_ref_any _ _ hb).mono ?_;rintro e w' ⟨rfl,rfl⟩
     go_wp2_with fail
     refine (wdigits_any _ _ ha).mono ?_;rintro e w' ⟨rfl,rfl⟩
     go_wp2_with fail
     refine (wdigits_any _ _ hb).mono ?_;rintro e w' ⟨rfl,rfl⟩
     go_wp2_with fail
     go_ret
     exact ⟨ret_int HR.out.symm,rfl⟩
end Go.Proofs.YtljekdpgjaahjaaGreatDoor

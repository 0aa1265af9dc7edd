/- Digits in base 10, the least first: plain. (Printed from the limbs' theory.) -/
import Derived.Test.YtjcekdiocliddaaGreatDoorG4
import Derived.Test.YtjcekdiocliddaaGreatDoorG1
import Derived.Test.YtjcekdiocliddaaGreatDoorG2
import Derived.Deep.QuietTactic
import Derived.BigQuiet
namespace Go.Proofs.YtjcekdiocliddaaGreatDoor
namespace Num
def lw:List Nat→Nat
 |[]=>0
 |x :: t=>x+10*lw t
def ns (n:Nat):List Nat:=if _h:n=0 then [] else n % 10 :: ns (n / 10)
termination_by n
decreasing_by omega
def digl (xs:List Nat):Prop:=∀ x ∈ xs,x<10
theorem ns_zero:ns 0=[]:=by rw [ns];simp
theorem ns_pos {n:Nat} (h:n≠0):ns n=n % 10 :: ns (n / 10):=by rw [ns];simp [h]
theorem lw_ns (n:Nat):lw (ns n)=n:=by
 induction n using Nat.strongRecOn with
 |_ n ih =>
  by_cases h:n=0
  ·subst h;rw [ns_zero];rfl
  ·rw [ns_pos h,lw,ih _ (by omega)];omega
theorem digl_ns (n:Nat):digl (ns n):=by
 induction n using Nat.strongRecOn with
 |_ n ih =>
  by_cases h:n=0
  ·subst h;rw [ns_zero];intro x hx;cases hx
  ·rw [ns_pos h];intro x hx
   rcases List.mem_cons.1 hx with rfl | hx
   ·omega
   ·exact ih _ (by omega) x hx
theorem ns_inj {m n:Nat} (h:ns m=ns n):m=n:=by rw [← lw_ns m,h,lw_ns]
theorem ns_eq_nil {n:Nat}:ns n=[]↔n=0:=by
 constructor
 ·intro h;rw [← lw_ns n,h];rfl
 ·rintro rfl;exact ns_zero
theorem ns_cons (x n:Nat) (hx:x<10) (h:x≠0∨n≠0):ns (x+10*n)=x :: ns n:=by
 rw [ns_pos (by omega),show (x+10*n) % 10=x by omega,show (x+10*n) / 10=n by omega]
theorem lw_append (a b:List Nat):lw (a ++ b)=lw a+10 ^ a.length*lw b:=by
 induction a with
 |nil=>simp [lw]
 |cons x t ih =>
  rw [List.cons_append,lw,ih,lw,List.length_cons,Nat.pow_succ,Nat.mul_add,← Nat.mul_assoc,Nat.mul_comm (10 ^ t.length)]
  omega
theorem lw_lt (xs:List Nat) (h:digl xs):lw xs<10 ^ xs.length:=by
 induction xs with
 |nil=>simp [lw]
 |cons x t ih =>
  have h1:=h x (by simp)
  have h2:=ih (fun y hy=>h y (by simp [hy]))
  rw [lw,List.length_cons,Nat.pow_succ]
  omega
theorem ns_lw (xs:List Nat) (h:digl xs) (hl:xs.getLast? ≠ some 0):ns (lw xs)=xs:=by
 induction xs with
 |nil=>rw [lw,ns_zero]
 |cons x t ih =>
  have h1:=h x (by simp)
  have h2:digl t:=fun y hy=>h y (by simp [hy])
  have h3:t.getLast? ≠ some 0:=by
   cases t with
   |nil=>simp
   |cons y u=>simpa [List.getLast?_cons_cons] using hl
  have ih':=ih h2 h3
  have hx:x≠0∨lw t≠0:=by
   cases t with
   |nil=>left;simpa using hl
   |cons y u =>
    right;intro e
    rw [e,ns_zero] at ih';cases ih'
  rw [lw,ns_cons x _ h1 hx,ih']
theorem ns_last (n:Nat):(ns n).getLast? ≠ some 0:=by
 induction n using Nat.strongRecOn with
 |_ n ih =>
  by_cases h:n=0
  ·subst h;rw [ns_zero];simp
  ·rw [ns_pos h]
   by_cases h1:n / 10=0
   ·rw [h1,ns_zero];simp;omega
   ·have:=ih (n / 10) (by omega)
    cases hn:ns (n / 10) with
    |nil=>exact absurd (ns_eq_nil.1 hn) h1
    |cons y u=>rw [List.getLast?_cons_cons,← hn];exact this
theorem lw_snoc_zero (xs:List Nat):lw (xs ++ [0])=lw xs:=by rw [lw_append];simp [lw]
theorem digl_nil:digl []:=fun x hx=>by cases hx
theorem digl_append {a b:List Nat}:digl (a ++ b)↔digl a∧digl b:=by
 unfold digl;constructor
 ·intro h;exact ⟨fun x hx=>h x (by simp [hx]),fun x hx=>h x (by simp [hx])⟩
 ·rintro ⟨h1,h2⟩ x hx
  rcases List.mem_append.1 hx with h | h
  ·exact h1 x h
  ·exact h2 x h
theorem ns_length_le {n k:Nat}:(ns n).length≤k↔n<10 ^ k:=by
 induction k generalizing n with
 |zero=>simp [ns_eq_nil]
 |succ k ih =>
  by_cases h:n=0
  ·subst h;rw [ns_zero];simp;exact Nat.pow_pos (by omega)
  ·rw [ns_pos h,List.length_cons,Nat.pow_succ]
   have:=@ih (n / 10)
   constructor
   ·intro h1;have:=this.1 (by omega);omega
   ·intro h1;have:=this.2 (by omega);omega
theorem ns_length_mono {m n:Nat} (h:m≤n):(ns m).length≤(ns n).length :=
 ns_length_le.2 (Nat.lt_of_le_of_lt h (ns_length_le.1 (Nat.le_refl _)))
end Num
open Num
theorem trim_len10 (xs:List Nat) (k:Nat) (hx:digl xs) (hk:k≤xs.length) (he:lw (xs.take k)=lw xs) (h:k=0∨atN xs (k - 1)≠0):(ns (lw xs)).length=k∧xs.take k=ns (lw xs):=by
 have h1:digl (xs.take k):=fun x hx'=>hx x (List.mem_of_mem_take hx')
 have h2:(xs.take k).getLast? ≠ some 0:=by
  rcases h with rfl | h
  ·simp
  ·by_cases h0:k=0
   ·subst h0;simp
   ·rw [List.getLast?_eq_getElem?,List.length_take,Nat.min_eq_left hk,List.getElem?_take]
    rw [if_pos (by omega)]
    intro e
    apply h
    unfold atN
    rw [List.getD_eq_getElem?_getD,e];rfl
 have:=ns_lw _ h1 h2
 rw [he] at this
 rw [this]
 simp [hk]
theorem take_zero_step10 (xs:List Nat) (k:Nat) (hk:k<xs.length) (h:atN xs k=0):lw (xs.take k)=lw (xs.take (k+1)):=by
 rw [List.take_succ_eq_append_getElem hk]
 have:xs[k]=0:=by simpa [atN,hk] using h
 rw [this,lw_snoc_zero]
theorem take_ns (xs:List Nat) (hx:digl xs):xs.take (ns (lw xs)).length=ns (lw xs):=by
 have:∀ k,k≤xs.length→lw (xs.take k)=lw xs→xs.take (ns (lw xs)).length=ns (lw xs):=by
  intro k
  induction k with
  |zero=>intro hk he;have:=trim_len10 xs 0 hx hk he (.inl rfl);rw [this.1];exact this.2
  |succ k ih =>
   intro hk he
   by_cases h:atN xs k=0
   ·exact ih (by omega) (by rw [take_zero_step10 xs k (by omega) h];exact he)
   ·have:=trim_len10 xs (k+1) hx hk he (.inr (by simpa using h));rw [this.1];exact this.2
 exact this xs.length (Nat.le_refl _) (by simp)
theorem atD_lt {xs:List Nat} (h:digl xs) (k:Nat):atN xs k<10:=by
 unfold atN
 rw [List.getD_eq_getElem?_getD]
 cases hk:xs[k]? with
 |none=>simp
 |some x=>exact h x (List.mem_of_getElem? hk)
theorem lw_take_succ (xs:List Nat) (k:Nat):lw (xs.take (k+1))=lw (xs.take k)+10 ^ k*atN xs k:=by
 by_cases h:k<xs.length
 ·rw [List.take_succ_eq_append_getElem h,lw_append,List.length_take,Nat.min_eq_left (by omega)]
  simp [lw,atN,h]
 ·rw [List.take_of_length_le (by omega),List.take_of_length_le (by omega),atN_ge (by omega)];simp
theorem lw_snoc (ys:List Nat) (x:Nat):lw (ys ++ [x])=lw ys+10 ^ ys.length*x:=by
 rw [lw_append];simp [lw]
theorem digl_snoc {ys:List Nat} {x:Nat} (h:digl ys) (hx:x<10):digl (ys ++ [x]) :=
 digl_append.2 ⟨h,fun y hy=>by simp at hy;rw [hy];exact hx⟩
theorem times_step10 (xs ys:List Nat) (k m carry:Nat) (hy:ys.length=k) (h:lw ys+10 ^ k*carry=lw (xs.take k)*m) :
  lw (ys ++ [(atN xs k*m+carry) % 10])+10 ^ (k+1)*((atN xs k*m+carry) / 10)=lw (xs.take (k+1))*m:=by
 rw [lw_snoc,hy,lw_take_succ,Nat.add_mul,← h,Nat.pow_succ]
 generalize hn:atN xs k*m+carry=n
 have:10 ^ k*(n % 10)+10 ^ k*10*(n / 10)=10 ^ k*n:=by
  rw [Nat.mul_assoc,← Nat.mul_add];congr 1;omega
 rw [Nat.add_assoc,this,← hn,Nat.mul_add,Nat.mul_assoc]
 omega
theorem carry_lt10 (x m carry:Nat) (hx:x<10) (hm:m<10) (hc:carry<10):x*m+carry≤90∧(x*m+carry) / 10<10:=by
 have:x*m≤9*9:=Nat.mul_le_mul (by omega) (by omega)
 omega
theorem ns_of_len (ys:List Nat) (hy:digl ys) (h:ys.length≤(ns (lw ys)).length):ns (lw ys)=ys:=by
 have:=take_ns ys hy
 rw [← this,List.take_of_length_le h]
theorem ns_len_ge {n k:Nat} (h:10 ^ k≤n):k+1≤(ns n).length:=by
 rcases Nat.lt_or_ge k (ns n).length with h1 | h1
 ·exact h1
 ·have:=ns_length_le.1 h1;omega
theorem pow_le_of_len10 {n:Nat} (h:0<(ns n).length):10 ^ ((ns n).length - 1)≤n:=by
 rcases Nat.lt_or_ge n (10 ^ ((ns n).length - 1)) with h1 | h1
 ·have:=ns_length_le.2 h1;omega
 ·exact h1
theorem add_step10 (xs ys zs:List Nat) (k carry:Nat) (hz:zs.length=k) (h:lw zs+10 ^ k*carry=lw (xs.take k)+lw (ys.take k)) :
  lw (zs ++ [(atN xs k+atN ys k+carry) % 10])+10 ^ (k+1)*((atN xs k+atN ys k+carry) / 10)=lw (xs.take (k+1))+lw (ys.take (k+1)):=by
 rw [lw_snoc,hz,lw_take_succ,lw_take_succ,Nat.pow_succ]
 generalize hn:atN xs k+atN ys k+carry=n
 have:10 ^ k*(n % 10)+10 ^ k*10*(n / 10)=10 ^ k*n:=by
  rw [Nat.mul_assoc,← Nat.mul_add];congr 1;omega
 rw [Nat.add_assoc,this,← hn,Nat.mul_add,Nat.mul_add]
 omega
theorem sub_step10 (xs ys zs:List Nat) (k borrow d borrow':Nat) (hz:zs.length=k) (h:lw zs+lw (ys.take k)=lw (xs.take k)+10 ^ k*borrow)
  (hd:d+atN ys k+borrow=atN xs k+10*borrow') :
  lw (zs ++ [d])+lw (ys.take (k+1))=lw (xs.take (k+1))+10 ^ (k+1)*borrow':=by
 rw [lw_snoc,hz,lw_take_succ,lw_take_succ,Nat.pow_succ,Nat.mul_assoc]
 have:=congrArg (10 ^ k * ·) hd
 simp only [Nat.mul_add] at this
 omega
theorem lw_set (zs:List Nat) (j u:Nat) (hj:j<zs.length):lw (zs.set j u)+10 ^ j*atN zs j=lw zs+10 ^ j*u:=by
 have h1:=lw_append (zs.take j) (zs.drop j)
 rw [List.take_append_drop,List.length_take,Nat.min_eq_left (by omega),List.drop_eq_getElem_cons hj,lw] at h1
 rw [List.set_eq_take_append_cons_drop,if_pos hj,lw_append,List.length_take,Nat.min_eq_left (by omega),lw,h1]
 have:atN zs j=zs[j]:=by simp [atN,hj]
 rw [this]
 simp only [Nat.mul_add]
 omega
theorem digl_set {zs:List Nat} {j u:Nat} (h:digl zs) (hu:u<10):digl (zs.set j u):=by
 intro x hx
 rcases List.mem_or_eq_of_mem_set hx with h1 | h1
 ·exact h x h1
 ·omega
theorem lw_replicate (n:Nat):lw (List.replicate n 0)=0:=by
 induction n with
 |zero=>rfl
 |succ n ih=>rw [List.replicate_succ,lw,ih]
theorem digl_replicate (n:Nat):digl (List.replicate n 0):=fun x hx=>by rw [List.eq_of_mem_replicate hx];decide
theorem mul_step10 (zs ys:List Nat) (i k x carry base:Nat) (hl:i+k<zs.length)
  (h:lw zs+10 ^ (i+k)*carry=base+10 ^ i*x*lw (ys.take k)) :
  lw (zs.set (i+k) ((atN zs (i+k)+x*atN ys k+carry) % 10))+10 ^ (i+(k+1))*((atN zs (i+k)+x*atN ys k+carry) / 10) =
   base+10 ^ i*x*lw (ys.take (k+1)):=by
 have h1:=lw_set zs (i+k) ((atN zs (i+k)+x*atN ys k+carry) % 10) hl
 generalize hn:atN zs (i+k)+x*atN ys k+carry=n at *
 rw [lw_take_succ,Nat.mul_add,← Nat.add_assoc base,← h,show i+(k+1)=i+k+1 from rfl,Nat.pow_succ]
 have h2:10 ^ (i+k)*(n % 10)+10 ^ (i+k)*10*(n / 10)=10 ^ (i+k)*n:=by
  rw [Nat.mul_assoc,← Nat.mul_add];congr 1;omega
 have h3:10 ^ i*x*(10 ^ k*atN ys k)=10 ^ (i+k)*(x*atN ys k):=by
  rw [Nat.pow_add];simp only [Nat.mul_assoc,Nat.mul_left_comm,Nat.mul_comm]
 rw [h3]
 have h4:10 ^ (i+k)*n=10 ^ (i+k)*atN zs (i+k)+10 ^ (i+k)*(x*atN ys k)+10 ^ (i+k)*carry:=by
  rw [← hn,Nat.mul_add,Nat.mul_add]
 omega
theorem mul_end10 (zs xs ys:List Nat) (i carry:Nat) (hl:i+ys.length<zs.length) (hz:atN zs (i+ys.length)=0)
  (h:lw zs+10 ^ (i+ys.length)*carry=lw (xs.take i)*lw ys+10 ^ i*atN xs i*lw (ys.take ys.length)) :
  lw (zs.set (i+ys.length) carry)=lw (xs.take (i+1))*lw ys:=by
 have h1:=lw_set zs (i+ys.length) carry hl
 rw [hz,Nat.mul_zero,Nat.add_zero] at h1
 rw [h1,h,lw_take_succ,Nat.add_mul,List.take_of_length_le (Nat.le_refl _)]
theorem ns_dec:∀ n,n≠0→dec n=((ns n).map dch).reverse:=by
 intro n
 induction n using Nat.strongRecOn with
 |_ n ih =>
  intro h
  rw [ns_pos h]
  by_cases h1:n<10
  ·rw [dec_lt h1,show n / 10=0 by omega,ns_zero,show n % 10=n by omega];rfl
  ·rw [dec_ge h1,ih (n / 10) (by omega) (by omega)];simp
theorem ns_len {n:Nat} (h:n≠0):(ns n).length=(dec n).length:=by rw [ns_dec n h];simp
theorem ns_len_le (n:Nat):(ns n).length≤(dec n).length:=by
 by_cases h:n=0
 ·subst h;rw [ns_zero];simp
 ·rw [ns_len h];exact Nat.le_refl _
theorem lw_dv:∀ l:Str,lw (l.reverse.map dv)=val l:=by
 intro l
 have:∀ r:Str,lw (r.map dv)=val r.reverse:=by
  intro r
  induction r with
  |nil=>rfl
  |cons c t ih=>rw [List.map_cons,lw,ih,List.reverse_cons,val_snoc];omega
 rw [this,List.reverse_reverse]
theorem digl_dv {l:Str} (h:l.all isDig=true):digl (l.map dv):=by
 intro x hx
 obtain ⟨c,hc,rfl⟩:=List.mem_map.1 hx
 exact dv_lt (List.all_eq_true.1 h c hc)
end Go.Proofs.YtjcekdiocliddaaGreatDoor
namespace Go.Proofs.YtjcekdiocliddaaGreatDoor
open Go.RowKit Num
set_option linter.unusedVariables false
attribute [local go_sem] B_size B_get B_toList B_mk B_extract B_append
attribute [local go_sem high] run_max2
structure DigAt (w:World) (A:Option Addr) (c n:Nat):Prop where
 cells:Cells w A (nums (ns n))
 le:(ns n).length≤c
 cap:c≤maxLen
theorem DigAt.below {w w':World} {A:Option Addr} {c n:Nat} (h:DigAt w A c n) (hb:Below w.heap.size w w'):DigAt w' A c n:=⟨h.cells.below hb,h.le,h.cap⟩
theorem el_ints:Elem Tryz.prog 46 3 (.int .i64 0) 8:=⟨Tryz.underlying46,info_parts int_info,rfl⟩
theorem lwT_lt {xs:List Nat} (h:digl xs) (k:Nat):lw (xs.take k)<10 ^ k:=by
 have h1:=lw_lt (xs.take k) (fun x hx=>h x (List.mem_of_mem_take hx))
 exact Nat.lt_of_lt_of_le h1 (Nat.pow_le_pow_right (by omega) (by rw [List.length_take];omega))
theorem cmp_start (xs ys:List Nat):lw xs+lw (ys.take (max xs.length ys.length))=lw ys+lw (xs.take (max xs.length ys.length)):=by
 rw [List.take_of_length_le (by omega),List.take_of_length_le (by omega)];omega
theorem cmp_step {xs ys:List Nat} {k:Nat} (h:lw xs+lw (ys.take (k+1))=lw ys+lw (xs.take (k+1))) (he:atN xs k=atN ys k):lw xs+lw (ys.take k)=lw ys+lw (xs.take k):=by
 rw [lw_take_succ,lw_take_succ,he] at h;omega
theorem cmp_less {xs ys:List Nat} {k:Nat} (hx:digl xs) (h:lw xs+lw (ys.take (k+1))=lw ys+lw (xs.take (k+1))) (he:atN xs k<atN ys k):lw xs<lw ys:=by
 rw [lw_take_succ,lw_take_succ] at h
 have h1:=lwT_lt hx k
 have h2:10 ^ k*(atN xs k+1)≤10 ^ k*atN ys k:=Nat.mul_le_mul_left _ (by omega)
 rw [Nat.mul_add] at h2
 omega
theorem ordI_lt {x y:Nat} (h:x<y):ordI x y = -1:=by unfold ordI;rw [if_pos (by omega)]
theorem ordI_gt {x y:Nat} (h:y<x):ordI x y=1:=by unfold ordI;rw [if_neg (by omega),if_pos (by omega)]
theorem ordI_eq {x y:Nat} (h:x=y):ordI x y=0:=by unfold ordI;rw [if_neg (by omega),if_neg (by omega)]
def rdig (m:Str):List Nat:=m.reverse.map dv
theorem rdig_length (m:Str):(rdig m).length=m.length:=by simp [rdig]
theorem rdig_take_succ (m:Str) (k:Nat) (h:k<m.length):(rdig m).take (k+1)=(rdig m).take k ++ [dv (at8 m (m.length - 1 - k))]:=by
 rw [List.take_succ_eq_append_getElem (by rw [rdig_length];exact h)]
 congr 2
 simp only [rdig,List.getElem_map,List.getElem_reverse]
 rw [at8_eq m _ (by omega)]
theorem digl_rdig {m:Str} (h:m.all isDig=true):digl (rdig m):=digl_dv (by rw [List.all_reverse];exact h)
theorem neg_at {l:Str} (h:neg? l=true):at8 l 0=45∧0<l.length∧mag l=l.drop 1:=by
 unfold neg? at h
 cases l with
 |nil=>simp at h
 |cons c t=>simp at h;subst h;exact ⟨rfl,by simp,rfl⟩
theorem neg_not {l:Str} (h:neg? l=false):mag l=l∧(0<l.length→at8 l 0≠45):=by
 refine ⟨by unfold mag;rw [h];rfl,?_⟩
 unfold neg? at h
 cases l with
 |nil=>simp
 |cons c t=>simp at h;intro _;exact h
theorem at8_drop (l:Str) (j:Nat):at8 (l.drop 1) j=at8 l (j+1):=by
 unfold at8;simp [List.getD]
theorem bytes_snoc (l:List UInt8) (c:UInt8):bytes (l ++ [c])=bytes l ++ [.int .u8 (c.toNat:Int)]:=by simp [bytes]
theorem text_step (ys:List Nat) (j:Nat) (h:j<ys.length):((ys.drop j).map dch).reverse=((ys.drop (j+1)).map dch).reverse ++ [dch (atN ys j)]:=by
 rw [List.drop_eq_getElem_cons h,List.map_cons,List.reverse_cons];simp [atN,h]
theorem atD_mem {xs:List Nat} (h:digl xs) (k:Nat):atN xs k<10:=atD_lt h k
theorem isDig_no1 {c:UInt8} (h:c.toNat<48):isDig c=false:=by unfold isDig;simp;omega
theorem isDig_no2 {c:UInt8} (h:57<c.toNat):isDig c=false:=by unfold isDig;simp;omega
theorem isDig_yes {c:UInt8} (h:48≤c.toNat) (h2:c.toNat≤57):isDig c=true:=by unfold isDig;simp;omega
theorem all_drop_no {l:Str} {f k:Nat} (h1:f≤k) (h2:k<l.length) (h3:isDig (at8 l k)=false):(l.drop f).all isDig=false:=by
 rw [List.all_eq_false]
 refine ⟨l[k],?_,by rw [← at8_eq l k h2,h3];simp⟩
 rw [List.mem_drop_iff_getElem]
 exact ⟨k - f,by omega,by congr 1;omega⟩
theorem all_drop_snoc {l:Str} {f k:Nat} (h1:f≤k) (h2:k<l.length) (h3:((l.take k).drop f).all isDig=true) (h4:isDig (at8 l k)=true):((l.take (k+1)).drop f).all isDig=true:=by
 rw [List.take_succ_eq_append_getElem h2,List.drop_append_of_le_length (by rw [List.length_take];omega),List.all_append,h3]
 simpa [at8_eq l k h2] using h4
theorem head_drop {l:Str} {f:Nat} (h:f<l.length):(l.drop f).head? = some (at8 l f):=by
 rw [List.drop_eq_getElem_cons h,at8_eq l f h];rfl
theorem DigAt.of_trim {w:World} {xs:List Nat} {v:Nat} {A:Option Addr} {c:Nat} (hx:digl xs) (hv:lw xs=v) (hl:xs.length≤c) (hm:c≤maxLen) (hc:Cells w A (nums xs)):DigAt w A c v:=by
 subst hv
 have h:=take_ns xs hx
 refine ⟨?_,?_,hm⟩
 ·rw [← h]
  have:=hc.take (ns (lw xs)).length
  unfold nums at this ⊢
  rw [← List.map_take] at this
  exact this
 ·have:=congrArg List.length h
  rw [List.length_take] at this;omega
theorem OwnS.fresh {w:World} {Bs:Nat} {e:TypeId} {ad:Addr} {n c:Nat} {xs:List Value} (h:OwnS w Bs e (some ad) n c xs):Bs≤ad.block:=by
 rcases h.2 with ⟨hv,_⟩ | ⟨g,cap,cur,hv,hg,_⟩
 ·cases hv
 ·injection hv with hA _ _
  injection hA with hA
  subst hA
  exact hg
theorem DigAt.setOther {w:World} {A:Option Addr} {c n g:Nat} (h:DigAt w A c n) (hne:∀ ad,A=some ad→ad.block≠g) (j:Nat) (u:Value):DigAt (w.setCell ⟨g,j,none⟩ u) A c n:=by
 refine ⟨fun h0=>?_,h.le,h.cap⟩
 obtain ⟨b,off,e,hb,hc⟩:=h.cells h0
 have hn:=hne _ e
 refine ⟨b,off,e,by simpa [World.setCell] using hb,fun k v hv=>?_⟩
 rw [World.cell?_setCell_other w _ _ u (fun he=>by injection he with he _ _;exact hn he.symm)]
 exact hc k v hv
theorem small_mul {x y:Nat} (hx:x<10) (hy:y<10):x*y≤81:=Nat.mul_le_mul (show x≤9 by omega) (show y≤9 by omega)
theorem lw_drop (xs:List Nat) (k:Nat) (h:k<xs.length):lw (xs.drop k)=atN xs k+10*lw (xs.drop (k+1)):=by
 rw [List.drop_eq_getElem_cons h,lw];simp [atN,h]
theorem wdiv_step (xs zs:List Nat) (j b r m rest:Nat) (hj:j<xs.length) (hjz:j<zs.length) (hz0:atN zs j=0) (h:10 ^ (j+1)*lw (xs.drop (j+1))=lw zs*b+10 ^ (j+1)*r) (hm:atN xs j+10*r=m*b+rest) :
  10 ^ j*lw (xs.drop j)=lw (zs.set j m)*b+10 ^ j*rest:=by
 have h1:=lw_set zs j m hjz
 rw [hz0,Nat.mul_zero,Nat.add_zero] at h1
 rw [h1,lw_drop xs j hj,Nat.add_mul,Nat.mul_add]
 rw [Nat.pow_succ,Nat.mul_assoc,Nat.mul_assoc] at h
 have h2:=congrArg (10 ^ j * ·) hm
 simp only [Nat.mul_add] at h2
 rw [Nat.mul_assoc (10 ^ j) m b]
 omega
theorem set_same10 (zs:List Nat) (j:Nat) (h:atN zs j=0):zs.set j 0=zs:=by
 apply List.ext_getElem?
 intro i
 rw [List.getElem?_set]
 by_cases hij:j=i
 ·subst hij
  rw [if_pos rfl]
  unfold atN at h
  rw [List.getD_eq_getElem?_getD] at h
  by_cases hl:j<zs.length
  ·rw [if_pos hl,List.getElem?_eq_getElem hl]
   rw [List.getElem?_eq_getElem hl] at h
   simp at h;rw [h]
  ·rw [if_neg hl,List.getElem?_eq_none (by omega)]
 ·rw [if_neg hij]
theorem digl_cons {x:Nat} {xs:List Nat} (hx:x<10) (h:digl xs):digl (x :: xs):=by
 intro y hy
 rcases List.mem_cons.1 hy with rfl | hy
 ·exact hx
 ·exact h y hy
theorem nums_one10 (xs:List Nat):∀ u ∈ nums xs,u.oneCell'=true:=by
 intro u hu
 unfold nums at hu
 obtain ⟨x,_,rfl⟩:=List.mem_map.1 hu
 rfl
theorem ns_mul10_len {n b:Nat} (h:n<b*10):(ns n).length≤(ns b).length+1:=by
 have h1:=ns_length_le.1 (Nat.le_refl (ns b).length)
 refine ns_length_le.2 ?_
 rw [Nat.pow_succ];omega
theorem ns_add_len {a b k:Nat} (ha:(ns a).length≤k) (hb:(ns b).length≤k):(ns (a+b)).length≤k+1:=by
 have h1:=ns_length_le.1 ha
 have h2:=ns_length_le.1 hb
 refine ns_length_le.2 ?_
 rw [Nat.pow_succ];omega
theorem ns_mul_len {a b k m:Nat} (ha:(ns a).length≤k) (hb:(ns b).length≤m):(ns (a*b)).length≤k+m:=by
 have h1:=ns_length_le.1 ha
 have h2:=ns_length_le.1 hb
 refine ns_length_le.2 ?_
 rw [Nat.pow_add]
 rcases Nat.eq_zero_or_pos b with h0 | h0
 ·subst h0;rw [Nat.mul_zero];exact Nat.mul_pos (Nat.pow_pos (by omega)) (Nat.pow_pos (by omega))
 ·exact Nat.lt_of_lt_of_le (Nat.mul_lt_mul_of_pos_right h1 h0) (Nat.mul_le_mul_left _ (Nat.le_of_lt h2))
theorem ns_le_len {a k:Nat} {l:Str} (h:right l=true) (hl:l.length≤k) (ha:a≤val l):(ns a).length≤k:=by
 refine ns_length_le.2 ?_
 have:=val_lt_len h
 have:=Nat.pow_le_pow_right (show 0<10 by omega) hl
 omega
theorem dec_len_ns (n:Nat):(dec n).length≤(ns n).length+1:=by
 by_cases h:n=0
 ·subst h;rw [dec_zero];simp
 ·rw [ns_len h];omega
theorem decI_len {z:Int} {k:Nat} (h:(ns z.natAbs).length≤k):(decI z).length≤k+2:=by
 have h1:=mag_length_decI z
 have h2:=dec_len_ns z.natAbs
 omega
theorem sg_add_abs (m n:Bool) (a b:Nat):(sg m a+sg n b).natAbs≤a+b:=by cases m <;> cases n <;> simp [sg] <;> omega
theorem ret_si {a b:List UInt8} {c d:Int} (h:a=b) (h2:c=d):Ending.returned (.tuple #[.string (B a),.int .i64 c])=.returned (.tuple #[.string (B b),.int .i64 d]):=by rw [h,h2]
theorem errI_len {a b:Str} (he:errI a b=0):(ns (val (mag a))).length≤4096∧(ns (val (mag b))).length≤4096:=by
 obtain ⟨h1,h2,h3,h4⟩:=errI_zero.1 he
 exact ⟨ns_le_len (right_mag h1) h3 (Nat.le_refl _),ns_le_len (right_mag h2) h4 (Nat.le_refl _)⟩
theorem ordI_nn (x y:Nat):ordI (-(x:Int)) (-(y:Int))=ordI y x:=by unfold ordI;split <;> split <;> (try split) <;> omega
theorem val_pos_neg {a:Str} (h:rightI a=true) (hn:neg? a=true):0<val (mag a):=by
 rcases Nat.eq_zero_or_pos (val (mag a)) with h0 | h0
 ·have h1:=dec_mag h
  rw [h0,dec_zero] at h1
  unfold rightI at h
  rw [hn,h1] at h
  simp at h
 ·exact h0
theorem cmp_pp {a b:Str} (h1:rightI a=true) (h2:rightI b=true) (hn:neg? a=false) (hm:neg? b=false):cmpIS a b=ordI (val (mag a)) (val (mag b)):=by
 rw [cmpIS,if_pos ⟨h1,h2⟩,valI_sg,valI_sg,hn,hm];rfl
theorem cmp_nn {a b:Str} (h1:rightI a=true) (h2:rightI b=true) (hn:neg? a=true) (hm:neg? b=true):cmpIS a b=ordI (val (mag b)) (val (mag a)):=by
 rw [cmpIS,if_pos ⟨h1,h2⟩,valI_sg,valI_sg,hn,hm,sg_true,sg_true,ordI_nn]
theorem cmp_np {a b:Str} (h1:rightI a=true) (h2:rightI b=true) (hn:neg? a=true) (hm:neg? b=false):cmpIS a b = -1:=by
 have:=val_pos_neg h1 hn
 rw [cmpIS,if_pos ⟨h1,h2⟩,valI_sg,valI_sg,hn,hm,sg_true,sg_false,ordI,if_pos (by omega)]
theorem cmp_pn {a b:Str} (h1:rightI a=true) (h2:rightI b=true) (hn:neg? a=false) (hm:neg? b=true):cmpIS a b=1:=by
 have:=val_pos_neg h2 hm
 rw [cmpIS,if_pos ⟨h1,h2⟩,valI_sg,valI_sg,hn,hm,sg_true,sg_false,ordI,if_neg (by omega),if_pos (by omega)]
theorem ret_ssi {a b a' b':List UInt8} {c d:Int} (h:a=a') (h1:b=b') (h2:c=d):Ending.returned (.tuple #[.string (B a),.string (B b),.int .i64 c])=.returned (.tuple #[.string (B a'),.string (B b'),.int .i64 d]):=by rw [h,h1,h2]
theorem ns_one:ns 1=[1]:=by rw [ns_pos (by omega),show 1 / 10=0 from rfl,ns_zero]
theorem dig_one (w:World):DigAt (w.alloc (.cells #[.int .i64 1] 3)) (some ⟨w.heap.size,0,none⟩) 1 1:=by
 have h:=OwnS.lit w 3 #[.int .i64 1] w.heap.size 1 (Nat.le_refl _) rfl (by unfold maxLen;omega)
 refine ⟨?_,by rw [ns_one];exact Nat.le_refl _,by unfold maxLen;omega⟩
 rw [ns_one];exact h.cells
theorem divI_err {a b:Str} (he:errI a b≠0):divIQ a b=[]∧divIR a b=[]∧divIE a b=errI a b:=by
 have h:divIE a b=errI a b:=if_neg he
 exact ⟨if_neg (by rw [h];exact he),if_neg (by rw [h];exact he),h⟩
theorem divI_zero {a b:Str} (he:errI a b=0) (hb:valI b=0):divIQ a b=[]∧divIR a b=[]∧divIE a b=10:=by
 have h:divIE a b=10:=by rw [divIE,if_pos he,if_pos hb]
 exact ⟨if_neg (by rw [h];decide),if_neg (by rw [h];decide),h⟩
theorem divI_ok {a b:Str} (he:errI a b=0) (hb:valI b≠0):divIQ a b=decI (qI (valI a) (valI b))∧divIR a b=decI (rI (valI a) (valI b))∧divIE a b=0:=by
 have h:divIE a b=0:=by rw [divIE,if_pos he,if_neg hb]
 exact ⟨if_pos h,if_pos h,h⟩
theorem ret_ii' {a b c d:Int} (h:a=b) (h2:c=d):Ending.returned (.tuple #[.int .i64 a,.int .i64 c])=.returned (.tuple #[.int .i64 b,.int .i64 d]):=by rw [h,h2]
theorem of_step (x:Int) (zs:List Nat) (k N d:Nat) (hz:zs.length=k) (h:N=lw zs+10 ^ k*x.natAbs) (hd:d=x.natAbs % 10) :
  N=lw (zs ++ [d])+10 ^ (k+1)*(Int.tdiv x 10).natAbs:=by
 rw [lw_snoc,hz,tdiv_abs,hd,h,Nat.pow_succ,Nat.mul_assoc,Nat.add_assoc,← Nat.mul_add]
 congr 2;omega
theorem of_small {k N:Nat} {x:Int} {L:Nat} (h:N=L+10 ^ k*x.natAbs) (hN:N≤9223372036854775808) (hx:x≠0):k≤18:=by
 rcases Nat.lt_or_ge 18 k with h1 | h1
 ·have h2:10 ^ 19≤10 ^ k:=Nat.pow_le_pow_right (by omega) (by omega)
  have h3:10 ^ k*1≤10 ^ k*x.natAbs:=Nat.mul_le_mul_left _ (by omega)
  omega
 ·exact h1
theorem sg_neg (z:Int):sg (decide (z<0)) z.natAbs=z:=by
 by_cases h:z<0
 ·simp [h,sg];omega
 ·simp [h,sg];omega
theorem int_long {s:Str} (h:rightI s=true) (hl:19<(mag s).length):¬ fits (valI s):=by
 have hr:=right_mag h
 have h1:10 ^ 19≤val (mag s):=by
  rcases Nat.lt_or_ge (val (mag s)) (10 ^ 19) with h2 | h2
  ·have:=(length_dec_le (n:=val (mag s)) (k:=19) (by omega)).2 h2
   rw [dec_val hr] at this;omega
  ·exact h2
 intro hf
 obtain ⟨h2,h3⟩:=hf
 have h4:=abs_valI s
 omega
theorem int_step {xs:List Nat} {j:Nat} (hj:j<xs.length):lw (xs.drop j)=atN xs j+10*lw (xs.drop (j+1)):=lw_drop xs j hj
theorem lw_drop_le (xs:List Nat) (j:Nat):lw (xs.drop j)≤lw xs:=by
 have:=lw_append (xs.take j) (xs.drop j)
 rw [List.take_append_drop] at this
 rcases Nat.eq_zero_or_pos (lw (xs.drop j)) with h | h
 ·omega
 ·have h1:=Nat.pow_pos (n:=(xs.take j).length) (show 0<10 by omega)
  have h2:1*lw (xs.drop j)≤10 ^ (xs.take j).length*lw (xs.drop j):=Nat.mul_le_mul_right _ h1
  omega
end Go.Proofs.YtjcekdiocliddaaGreatDoor

/- The table of powers of ten, strconv.Itoa. -/
import Derived.Test.YtljekdpgjaahjaaGreatDoorG2
import Derived.Test.YtljekdpgjaahjaaGreatDoorShelf
import Derived.Lib.AppendIntMem
import Derived.WalkSmall
import Derived.Test.YtljekdpgjaahjaaGreatDoorG4
namespace Go.Proofs.YtljekdpgjaahjaaGreatDoor
open Go.RowKit Num
set_option linter.unusedVariables false
attribute [local go_sem] B_size B_get B_toList B_mk B_extract
attribute [local go_sem high] run_max2
def Tab (w:World):Prop:=Lib.TabIs Tryz.prog w Tryz.tabName .u64 Lib.pow10Tab
theorem Tab.below {w w':World} (h:Tab w) (hb:Below w.heap.size w w'):Tab w':=by
 unfold Tab Lib.TabIs at h ⊢
 rw [← h]
 unfold World.var? at h ⊢
 cases hg:Tryz.prog.globalNamed Tryz.tabName with
 |none=>rw [hg] at h;cases h
 |some g =>
  rw [hg] at h
  simp only [Option.bind_some] at h ⊢
  rw [hb.block g]
  rcases Nat.lt_or_ge g w.heap.size with h' | h'
  ·exact h'
  ·rw [Array.getElem?_eq_none h'] at h;simp at h
theorem decDigits_eq (n:Nat):Lib.decDigits n=dec n:=by
 induction n using Nat.strongRecOn with
 |_ n ih =>
  rw [Lib.decDigits,dec]
  by_cases h:n<10
  ·simp [h,dch]
  ·simp [h,dch];exact ih _ (by omega)
theorem itoa_any (n:Nat) (w:World) (hn:n≤9223372036854775807) (ht:Tab w) :
  Calls Tryz.prog 94 #[.int .i64 n] w fun e w'=>e=.returned (.string (B (dec n)))∧Below w.heap.size w w':=by
 refine (Tryz.strconv_Itoa n (by omega) (by omega) w ht).mono ?_
 rintro e w' ⟨rfl,k,os,rfl⟩
 refine ⟨?_,Lib.below_grow _ w (Nat.le_refl _) k os⟩
 unfold Lib.itoa
 rw [if_neg (by omega),Int.toNat_natCast,decDigits_eq];rfl
def Bld (w:World) (b:Nat) (l:List UInt8):Prop:=Lib.IsBuilderF 57 5 b b (Lib.byteCells l) w
theorem Bld.below {w w':World} {b:Nat} {l:List UInt8} (h:Bld w b l) (hb:Below w.heap.size w w'):Bld w' b l:=by
 have key:∀ p,Lib.BuilderAtF 57 5 b b p (Lib.byteCells l) w→Lib.BuilderAtF 57 5 b b p (Lib.byteCells l) w':=by
  rintro p ⟨hB,v,hbk,hown,hne⟩
  have hlt:b<w.heap.size:=by
   rcases Nat.lt_or_ge b w.heap.size with h' | h'
   ·exact h'
   ·rw [Array.getElem?_eq_none h'] at hbk;cases hbk
  refine ⟨hB,v,by rw [hb.block b hlt];exact hbk,hown.kept (row:=none) ⟨hb.os,hb.tape,hb.output,hb.size,fun k hk _=>hb.block k hk⟩ ?_,hne⟩
  cases hv:v.ownBlock with
  |none=>exact .inl rfl
  |some k=>exact .inr (by simp)
 rcases h with h | h
 ·exact .inl (key _ h)
 ·exact .inr (key _ h)
theorem Bld.new (w:World):Bld (w.alloc (.cells #[.pointer none,.slice none 0 0] 57)) w.heap.size []:=by
 exact .inl (Lib.BuilderAtF.of ⟨Nat.le_refl _,.slice none 0 0,heap_alloc_new w _,World.ownsRow_nil _ _ _ _,by simp [Value.ownBlock]⟩)
theorem write_any (b:Nat) (l s:List UInt8) (w:World) (h:Bld w b l) (hl:l.length+s.length≤1000000000000) :
  Calls Tryz.prog 20 #[.pointer (some ⟨b,0,none⟩),.string (B s)] w fun e w'=>e=.returned (.tuple #[.int .i64 s.length,.nilIface])∧Bld w' b (l ++ s)∧Below b w w':=by
 have hb:b≤w.heap.size:=by
  have:∀ p,Lib.BuilderAtF 57 5 b b p (Lib.byteCells l) w→b≤w.heap.size:=by
   rintro p ⟨hB,v,hbk,_⟩
   rcases Nat.lt_or_ge b w.heap.size with h' | h'
   ·omega
   ·rw [Array.getElem?_eq_none h'] at hbk;cases hbk
  rcases h with h | h
  ·exact this _ h
  ·exact this _ h
 refine (Tryz.Builder_WriteString_k b b (Lib.byteCells l) (B s) w h (by rw [Lib.byteCells_length,B_size];omega) hb).mono ?_
 rintro e w' ⟨rfl,hb',hbel,_⟩
 rw [B_size]
 refine ⟨rfl,.inr ?_,hbel⟩
 have e1:Lib.byteCells l ++ Lib.strCells (B s)=Lib.byteCells (l ++ s):=by rw [Lib.strCells_eq];simp [Lib.byteCells,B]
 rw [e1] at hb'
 exact hb'
theorem bstring_any (b:Nat) (l:List UInt8) (w:World) (h:Bld w b l) (hb:b≤w.heap.size) :
  Calls Tryz.prog 29 #[.pointer (some ⟨b,0,none⟩)] w fun e w'=>e=.returned (.string (B l))∧Bld w' b l∧Below b w w':=by
 refine (Tryz.Builder_String_any_k b b l w h hb).mono ?_
 rintro e w' ⟨rfl,hb',hbel,_⟩
 exact ⟨rfl,hb',hbel⟩
theorem repeat_any (c:Nat) (w:World) (hc:c≤1000000000) :
  Calls Tryz.prog 146 #[.string (B [48]),.int .i64 c] w fun e w'=>e=.returned (.string (B (List.replicate c 48)))∧Below w.heap.size w w':=by
 refine (Tryz.strings_Repeat (B [48]) c w (by omega) (by rw [B_size];simp;omega)).mono ?_
 rintro e w' ⟨rfl,hb⟩
 refine ⟨?_,hb⟩
 have:∀ c,Lib.repeatL (B [48]).data.toList c=List.replicate c 48:=by
  intro c
  induction c with
  |zero=>rfl
  |succ c ih=>rw [Lib.repeatL,ih];rfl
 rw [this];rfl
theorem str_step (n x v:Nat) (hx:x<1000000000) (hv:v≠0):dec v ++ List.replicate (9 - (dec x).length) 48 ++ dec x=dec (x+1000000000*v):=by
 rw [dec_nl_cons x v hx hv,digs_pad 9 x (by omega) (by omega),List.append_assoc]
theorem lv_drop (xs:List Nat) (k:Nat) (h:k<xs.length):lv (xs.drop k)=atN xs k+1000000000*lv (xs.drop (k+1)):=by
 rw [List.drop_eq_getElem_cons h,lv];simp [atN,h]
theorem lv_drop_ne (n k:Nat) (h:k<(nl n).length):lv ((nl n).drop k)≠0:=by
 intro e
 have h1:=lv_append ((nl n).take k) ((nl n).drop k)
 rw [List.take_append_drop,e,Nat.mul_zero,Nat.add_zero,lv_nl] at h1
 have h2:=lv_lt ((nl n).take k) (fun x hx=>limbs_nl n x (List.mem_of_mem_take hx))
 rw [← h1,List.length_take,Nat.min_eq_left (by omega)] at h2
 have:=nl_length_le.2 h2
 omega
theorem dec_len9 {x:Nat} (h:x<1000000000):(dec x).length≤9:=(length_dec_le (by omega)).2 (by omega)
theorem dec_len_limbs (n k:Nat) (h:(nl n).length≤k):(dec n).length≤9*k+1:=by
 have h1:=nl_length_le.1 h
 rcases Nat.eq_zero_or_pos k with rfl | hk
 ·have:n=0:=by simpa using h1
  subst this;rw [dec_zero];simp
 ·have:(1000000000:Nat) ^ k=10 ^ (9*k):=by rw [Nat.pow_mul]
  rw [this] at h1
  have:=(length_dec_le (n:=n) (k:=9*k) (by omega)).2 h1
  omega
set_option maxHeartbeats 1000000 in
theorem string_any (n:Nat) (A:Option Addr) (c:Nat) (w:World) (hA:NumAt w A c n) (hl:(nl n).length≤1000000) (ht:Tab w) :
  Calls Tryz.prog 122 #[.slice A (nl n).length c] w fun e w'=>e=.returned (.string (B (dec n)))∧Below w.heap.size w w':=by
 obtain ⟨hc,hle,hcap⟩:=hA
 by_cases h0:n=0
 ·subst h0
  have HR:=Lib.hid dec_zero
  rw [nl_zero]
  go_enter Tryz.func122,Tryz.ntmps122
  go_wp2_with fail
  go_ret
  exact ⟨ret_str HR.out.symm,Below.refl _ _⟩
 ·have hx:=limbs_nl n
  have hlen:0<(nl n).length:=List.length_pos_iff.2 (fun e=>h0 (nl_eq_nil.1 e))
  have HD:=Lib.hid (fun k=>lv_drop_ne n k)
  have HV:=Lib.hid (lv_nl n)
  have HL:=Lib.hid (dec_len_limbs n _ (Nat.le_refl _))
  generalize nl n=xs at *
  have hne:((xs.length:Int) == 0)=false:=by rw [beq_eq_false_iff_ne];omega
  clear h0
  obtain ⟨b,off,rfl,hb,hcell⟩:=hc (by rw [nums_length];omega)
  have hcells:=Cells.num hcell
  have hc1:=hcells (xs.length - 1) (by omega)
  have hx1:=atN_lt hx (xs.length - 1)
  have hal:Below w.heap.size w (w.alloc (.cells #[.pointer none,.slice none 0 0] 57)):=(Below.refl _ _).alloc (Nat.le_refl _) _
  have hbd:=Bld.new w
  go_enter Tryz.func122,Tryz.ntmps122
  go_wp2_with fail
  refine (itoa_any _ _ (by omega) (ht.below hal)).mono ?_
  rintro e w1 ⟨rfl,hb1⟩
  go_wp2_with fail
  refine (write_any _ [] _ _ (hbd.below hb1) (by have:=dec_len9 hx1;simp;omega)).mono ?_
  rintro e w2 ⟨rfl,hbd2,hb2⟩
  have hbel2:Below w.heap.size w w2:=(hal.trans (hb1.mono hal.size)).trans hb2
  have hw2:Bld w2 w.heap.size (dec (lv (xs.drop (xs.length - 1)))):=by
   rw [lv_drop xs _ (by omega),List.drop_of_length_le (by omega)]
   simpa [lv] using hbd2
  clear hb1 hb2 hbd2 hbd hal hc1 hne hc
  go_wp2_with fail
  go_loopw [4,5] (fun i _ wr=>∃ k:Nat,k<xs.length∧i=.int .i64 ((k:Int) - 1)∧Bld wr w.heap.size (dec (lv (xs.drop k)))∧Below w.heap.size w wr) (fun i _ _=>(intOf i+1).toNat)
  case atStart=>exact ⟨xs.length - 1,by omega,by go_num,hw2,hbel2⟩
  case round =>
   obtain ⟨k,hk,rfl,hbd,hbel⟩:=hrel
   clear hw2 hbel2
   by_cases hk0:k=0
   ·subst hk0
    go_wp2_with fail
    refine (bstring_any _ _ _ hbd hbel.size).mono ?_
    rintro e w3 ⟨rfl,_,hb3⟩
    go_wp2_with fail
    go_ret
    exact ⟨ret_str (by rw [HV.out]),hbel.trans hb3⟩
   ·obtain ⟨j,rfl⟩:∃ j,k=j+1:=⟨k - 1,by omega⟩
    rw [show ((j+1:Nat):Int) - 1=(j:Int) from by omega]
    have hcj:wr.cell? ⟨b,off+j,none⟩=some (.int .i64 (atN xs j:Int)):=(hbel.cell (p:=⟨b,off+j,none⟩) hb).trans (hcells j (by omega))
    have hxj:=atN_lt hx j
    have hdl:=dec_len9 hxj
    have HS:=Lib.hid (str_step n (atN xs j) (lv (xs.drop (j+1))) hxj (HD.out (j+1) hk))
    have hlen2:(dec (lv (xs.drop (j+1)))).length≤9000002:=by
     have h1:lv (xs.drop (j+1))≤n:=by
      rw [← HV.out]
      have:=lv_append (xs.take (j+1)) (xs.drop (j+1))
      rw [List.take_append_drop] at this
      have h3:=Nat.le_mul_of_pos_left (lv (xs.drop (j+1))) (Nat.pow_pos (n:=(xs.take (j+1)).length) (show 0<1000000000 by omega))
      omega
     have:=length_dec_mono h1
     have:=HL.out
     omega
    have hsub:(9:Int) - ((dec (atN xs j)).length:Int)=((9 - (dec (atN xs j)).length:Nat):Int):=by omega
    clear hk0
    go_wp2_with fail
    refine (itoa_any _ _ (by omega) (ht.below hbel)).mono ?_
    rintro e w3 ⟨rfl,hb3⟩
    go_wp2_with fail
    refine (repeat_any _ _ (by omega)).mono ?_
    rintro e w4 ⟨rfl,hb4⟩
    go_wp2_with fail
    refine (write_any _ _ _ _ ((hbd.below hb3).below hb4) (by simp;omega)).mono ?_
    rintro e w5 ⟨rfl,hbd5,hb5⟩
    go_wp2_with fail
    refine (write_any _ _ _ _ hbd5 (by simp;omega)).mono ?_
    rintro e w6 ⟨rfl,hbd6,hb6⟩
    go_wp2_with fail
    go_roundw
    case rel =>
     have h4:=(hbel.trans (hb3.mono hbel.size)).trans (hb4.mono (Nat.le_trans hbel.size hb3.size))
     exact ⟨j,by omega,rfl,by rw [lv_drop xs j (by omega),← HS.out];exact hbd6,(h4.trans hb5).trans hb6⟩
    case measure=>simp [intOf]
def resS (n:Nat):List UInt8:=if (dec n).length≤4096 then dec n else []
def resE (n:Nat):Int:=if (dec n).length≤4096 then 0 else 4
theorem result_any (n:Nat) (A:Option Addr) (c:Nat) (w:World) (hA:NumAt w A c n) (hl:(nl n).length≤1000000) (ht:Tab w) :
  Calls Tryz.prog 92 #[.slice A (nl n).length c] w fun e w'=>e=.returned (.tuple #[.string (B (resS n)),.int .i64 (resE n)])∧Below w.heap.size w w':=by
 have hdl:(dec n).length≤9*(nl n).length+1:=dec_len_limbs n _ (Nat.le_refl _)
 by_cases h:(dec n).length≤4096
 ·have HR:=Lib.hid (show resS n=dec n∧resE n=0 from ⟨if_pos h,if_pos h⟩)
  go_enter Tryz.func92,Tryz.ntmps92
  go_wp2_with fail
  refine (string_any n A c _ hA hl ht).mono ?_
  rintro e w1 ⟨rfl,hb1⟩
  go_wp2_with fail
  go_ret2
  exact ⟨by rw [HR.out.1,HR.out.2];rfl,hb1⟩
 ·have HR:=Lib.hid (show resS n=[]∧resE n=4 from ⟨if_neg h,if_neg h⟩)
  go_enter Tryz.func92,Tryz.ntmps92
  go_wp2_with fail
  refine (string_any n A c _ hA hl ht).mono ?_
  rintro e w1 ⟨rfl,hb1⟩
  go_wp2_with fail
  go_ret2
  exact ⟨by rw [HR.out.1,HR.out.2];rfl,hb1⟩
def addS (a b:List UInt8):List UInt8:=if errT a b=0 then resS (val a+val b) else []
def addE (a b:List UInt8):Int:=if errT a b=0 then resE (val a+val b) else errT a b
theorem nl_len_of_pow {n k:Nat} (h:n<10 ^ k):(nl n).length≤k :=
 nl_length_le.2 (Nat.lt_of_lt_of_le h (Nat.pow_le_pow_left (by omega) _))
theorem nl_len_of_text {a:List UInt8} (h:right a=true) (hl:a.length≤4096):(nl (val a)).length≤4096 :=
 Nat.le_trans (nl_len_of_pow (val_lt_len h)) hl
theorem lv_take_all {xs:List Nat} {k:Nat} (h:xs.length≤k):lv (xs.take k)=lv xs:=by rw [List.take_of_length_le h]
def subS (a b:List UInt8):List UInt8:=if errT a b=0 then (if val a<val b then [] else resS (val a - val b)) else []
def subE (a b:List UInt8):Int:=if errT a b=0 then (if val a<val b then 2 else resE (val a - val b)) else errT a b
def mulS (a b:List UInt8):List UInt8:=if errT a b=0 then resS (val a*val b) else []
def mulE (a b:List UInt8):Int:=if errT a b=0 then resE (val a*val b) else errT a b
theorem mul_step (zs ys:List Nat) (i k x carry base:Nat) (hl:i+k<zs.length)
  (h:lv zs+1000000000 ^ (i+k)*carry=base+1000000000 ^ i*x*lv (ys.take k)) :
  lv (zs.set (i+k) ((atN zs (i+k)+x*atN ys k+carry) % 1000000000))+1000000000 ^ (i+(k+1))*((atN zs (i+k)+x*atN ys k+carry) / 1000000000) =
   base+1000000000 ^ i*x*lv (ys.take (k+1)):=by
 have h1:=lv_set zs (i+k) ((atN zs (i+k)+x*atN ys k+carry) % 1000000000) hl
 generalize hn:atN zs (i+k)+x*atN ys k+carry=n at *
 rw [lv_take_succ,Nat.mul_add,← Nat.add_assoc base,← h,show i+(k+1)=i+k+1 from rfl,Nat.pow_succ]
 have h2:1000000000 ^ (i+k)*(n % 1000000000)+1000000000 ^ (i+k)*1000000000*(n / 1000000000)=1000000000 ^ (i+k)*n:=by
  rw [Nat.mul_assoc,← Nat.mul_add];congr 1;omega
 have h3:1000000000 ^ i*x*(1000000000 ^ k*atN ys k)=1000000000 ^ (i+k)*(x*atN ys k):=by
  rw [Nat.pow_add];simp only [Nat.mul_assoc,Nat.mul_left_comm,Nat.mul_comm]
 rw [h3]
 have h4:1000000000 ^ (i+k)*n=1000000000 ^ (i+k)*atN zs (i+k)+1000000000 ^ (i+k)*(x*atN ys k)+1000000000 ^ (i+k)*carry:=by
  rw [← hn,Nat.mul_add,Nat.mul_add]
 omega
theorem mul_end (zs xs ys:List Nat) (i carry:Nat) (hl:i+ys.length<zs.length) (hz:atN zs (i+ys.length)=0)
  (h:lv zs+1000000000 ^ (i+ys.length)*carry=lv (xs.take i)*lv ys+1000000000 ^ i*atN xs i*lv (ys.take ys.length)) :
  lv (zs.set (i+ys.length) carry)=lv (xs.take (i+1))*lv ys:=by
 have h1:=lv_set zs (i+ys.length) carry hl
 rw [hz,Nat.mul_zero,Nat.add_zero] at h1
 rw [h1,h,lv_take_succ,Nat.add_mul,List.take_of_length_le (Nat.le_refl _)]
theorem mul_bound {z x y c:Nat} (hz:z<1000000000) (hx:x<1000000000) (hy:y<1000000000) (hc:c<1000000000) :
  x*y≤999999998000000001∧(z+x*y+c) / 1000000000<1000000000:=by
 have:x*y≤999999999*999999999:=Nat.mul_le_mul (by omega) (by omega)
 omega
end Go.Proofs.YtljekdpgjaahjaaGreatDoor

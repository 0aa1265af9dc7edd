/- The table of powers of ten, strconv.Itoa. -/
import Derived.Test.YtjcekdiocliddaaGreatDoorG1
import Derived.Test.YtjcekdiocliddaaGreatDoorShelf
import Derived.Lib.AppendIntMem
import Derived.WalkSmall
import Derived.Test.YtjcekdiocliddaaGreatDoorG4
namespace Go.Proofs.YtjcekdiocliddaaGreatDoor
open Lib (hid)
open Go.RowKit Num
set_option linter.unusedVariables false
attribute [local go_sem] BS Bg Bt Bm Be
attribute [local go_sem high] rm
def Tb (w:World):Prop:=Lib.TabIs Tryz.prog w Tryz.tabName .u64 Lib.pow10Tab
theorem Tb.below {w w':World} (h:Tb w) (hb:Below w.heap.size w w'):Tb w':=by
 unfold Tb Lib.TabIs at h ⊢;rw [<- h];unfold World.var? at h ⊢
 cases hg:Tryz.prog.globalNamed Tryz.tabName with
 |none=>rw [hg] at h;cases h
 |some g =>
  rw [hg] at h;simp only [Option.bind_some] at h ⊢;rw [hb.block g];rcases Nat.lt_or_ge g w.heap.size with h' | h'
  ·exact h'
  ·rw [Array.getElem?_eq_none h'] at h;simp at h
theorem decDigits_eq (n:Nat):Lib.decDigits n=dec n:=by
 induction n using Nat.strongRecOn with
 |_ n ih =>
  rw [Lib.decDigits,dec];by_cases h:n<10
  ·simp [h,dch]
  ·simp [h,dch];exact ih _ (by omega)
theorem itoa_any (n:Nat) (w:World) (hn:n<=9223372036854775807) (ht:Tb w) :
  Calls Tryz.prog 160 #[.int .i64 n] w fun e w'=>e=.returned (.string (B (dec n)))/\Below w.heap.size w w':=by
 refine (Tryz.strconv_Itoa n (by omega) (by omega) w ht).mono ?_;rintro e w' ⟨rfl,k,os,rfl⟩;refine ⟨?_,Lib.below_grow _ w (Nat.le_refl _) k os⟩;unfold Lib.itoa;rw [if_neg (by omega),Int.toNat_natCast,decDigits_eq];rfl
def Bld (w:World) (b:Nat) (l:List UInt8):Prop:=Lib.IsBuilderF 283 5 b b (Lib.byteCells l) w
theorem Bld.below {w w':World} {b:Nat} {l:List UInt8} (h:Bld w b l) (hb:Below w.heap.size w w'):Bld w' b l:=by
 have key:∀ p,Lib.BuilderAtF 283 5 b b p (Lib.byteCells l) w->Lib.BuilderAtF 283 5 b b p (Lib.byteCells l) w':=by
  rintro p ⟨hB,v,hbk,hown,hne⟩
  have hlt:b<w.heap.size:=by
   rcases Nat.lt_or_ge b w.heap.size with h' | h'
   ·exact h'
   ·rw [Array.getElem?_eq_none h'] at hbk;cases hbk
  refine ⟨hB,v,by rw [hb.block b hlt];exact hbk,hown.kept (row:=none) ⟨hb.os,hb.tape,hb.output,hb.size,fun k hk _=>hb.block k hk⟩ ?_,hne⟩
  cases hv:v.ownBlock with
  |none=>exact .inl rfl
  |some k=>exact .inr (by simp)
 rcases h with h | h
 ·exact .inl (key _ h)
 ·exact .inr (key _ h)
theorem Bld.new (w:World):Bld (w.alloc (.cells #[.pointer none,.slice none 0 0] 283)) w.heap.size []:=by
 exact .inl (Lib.BuilderAtF.of ⟨Nat.le_refl _,.slice none 0 0,heap_alloc_new w _,World.ownsRow_nil _ _ _ _,by simp [Value.ownBlock]⟩)
theorem Wy (b:Nat) (l s:List UInt8) (w:World) (h:Bld w b l) (hl:l.length+s.length<=1000000000000) :
  Calls Tryz.prog 203 #[.pointer (some ⟨b,0,none⟩),.string (B s)] w fun e w'=>e=.returned (.tuple #[.int .i64 s.length,.nilIface])/\Bld w' b (l ++ s)/\Below b w w':=by
 have hb:b<=w.heap.size:=by
  have:∀ p,Lib.BuilderAtF 283 5 b b p (Lib.byteCells l) w->b<=w.heap.size:=by
   rintro p ⟨hB,v,hbk,_⟩;rcases Nat.lt_or_ge b w.heap.size with h' | h'
   ·omega
   ·rw [Array.getElem?_eq_none h'] at hbk;cases hbk
  rcases h with h | h
  ·exact this _ h
  ·exact this _ h
 refine (Tryz.Builder_WriteString_k b b (Lib.byteCells l) (B s) w h (by rw [Lib.byteCells_length,BS];omega) hb).mono ?_;rintro e w' ⟨rfl,hb',hbel,_⟩;rw [BS];refine ⟨rfl,.inr ?_,hbel⟩;have e1:Lib.byteCells l ++ Lib.strCells (B s)=Lib.byteCells (l ++ s):=by rw [Lib.strCells_eq];simp [Lib.byteCells,B]
 rw [e1] at hb';exact hb'
theorem bstring_any (b:Nat) (l:List UInt8) (w:World) (h:Bld w b l) (hb:b<=w.heap.size) :
  Calls Tryz.prog 205 #[.pointer (some ⟨b,0,none⟩)] w fun e w'=>e=.returned (.string (B l))/\Bld w' b l/\Below b w w':=by
 refine (Tryz.Builder_String_any_k b b l w h hb).mono ?_;rintro e w' ⟨rfl,hb',hbel,_⟩;exact ⟨rfl,hb',hbel⟩
theorem repeat_any (c:Nat) (w:World) (hc:c<=1000000000) :
  Calls Tryz.prog 204 #[.string (B [48]),.int .i64 c] w fun e w'=>e=.returned (.string (B (List.replicate c 48)))/\Below w.heap.size w w':=by
 refine (Tryz.strings_Repeat (B [48]) c w (by omega) (by rw [BS];simp;omega)).mono ?_;rintro e w' ⟨rfl,hb⟩;refine ⟨?_,hb⟩
 have:∀ c,Lib.repeatL (B [48]).data.toList c=List.replicate c 48:=by
  intro c
  induction c with
  |zero=>rfl
  |succ c ih=>rw [Lib.repeatL,ih];rfl
 rw [this];rfl
theorem str_step (n x v:Nat) (hx:x<1000000000) (hv:v≠0):dec v ++ List.replicate (9 - (dec x).length) 48 ++ dec x=dec (x+1000000000*v):=by
 rw [dec_nl_cons x v hx hv,digs_pad 9 x (by omega) (by omega),List.append_assoc]
theorem Dg (xs:List Nat) (k:Nat) (h:k<xs.length):lv (xs.drop k)=aN xs k+1000000000*lv (xs.drop (k+1)):=by
 rw [List.drop_eq_getElem_cons h,lv];simp [aN,h]
theorem lv_drop_ne (n k:Nat) (h:k<(nl n).length):lv ((nl n).drop k)≠0:=by
 intro e;have h1:=lA ((nl n).take k) ((nl n).drop k);rw [List.take_append_drop,e,Nat.mul_zero,Nat.add_zero,lN] at h1;have h2:=lv_lt ((nl n).take k) (fun x hx=>ln n x (List.mem_of_mem_take hx));rw [<- h1,List.length_take,Nat.min_eq_left (by omega)] at h2;have:=nE.2 h2;omega
theorem dec_len9 {x:Nat} (h:x<1000000000):(dec x).length<=9:=(lD (by omega)).2 (by omega)
theorem dL (n k:Nat) (h:(nl n).length<=k):(dec n).length<=9*k+1:=by
 have h1:=nE.1 h;rcases Nat.eq_zero_or_pos k with rfl | hk
 ·have:n=0:=by simpa using h1
  subst this;rw [dz];simp
 ·have:(1000000000:Nat) ^ k=10 ^ (9*k):=by rw [Nat.pow_mul]
  rw [this] at h1;have:=(lD (n:=n) (k:=9*k) (by omega)).2 h1;omega
set_option maxHeartbeats 1000000 in
theorem Sa (n:Nat) (A:Option Addr) (c:Nat) (w:World) (hA:Nt w A c n) (hl:(nl n).length<=1000000) (ht:Tb w) :
  Calls Tryz.prog 196 #[.slice A (nl n).length c] w fun e w'=>e=.returned (.string (B (dec n)))/\Below w.heap.size w w':=by
 obtain ⟨hc,hle,hcap⟩:=hA;by_cases h0:n=0
 ·subst h0
  have HR:=hid dz;rw [nZ];go_enter Tryz.func196,Tryz.ntmps196;go_wp2_with fail;go_ret;exact ⟨Aq HR.out.symm,Below.refl _ _⟩
 ·have hx:=ln n
  have hlen:0<(nl n).length:=List.length_pos_iff.2 (fun e=>h0 (Aj.1 e));have HD:=hid (fun k=>lv_drop_ne n k);have HV:=hid (lN n);have HL:=hid (dL n _ (Nat.le_refl _));generalize nl n=xs at *;have hne:((xs.length:Int) == 0)=false:=by rw [beq_eq_false_iff_ne];omega
  clear h0;obtain ⟨b,off,rfl,hb,hcell⟩:=hc (by rw [nL];omega);have hcells:=Cs.num hcell;have hc1:=hcells (xs.length - 1) (by omega);have hx1:=AN hx (xs.length - 1);have hal:Below w.heap.size w (w.alloc (.cells #[.pointer none,.slice none 0 0] 283)):=(Below.refl _ _).alloc (Nat.le_refl _) _;have hbd:=Bld.new w;go_enter Tryz.func196,Tryz.ntmps196;go_wp2_with fail
  refine (itoa_any _ _ (by omega) (ht.below hal)).mono ?_;rintro e w1 ⟨rfl,hb1⟩;go_wp2_with fail;refine (Wy _ [] _ _ (hbd.below hb1) (by have:=dec_len9 hx1;simp;omega)).mono ?_;rintro e w2 ⟨rfl,hbd2,hb2⟩;have hbel2:Below w.heap.size w w2:=(hal.trans (hb1.mono hal.size)).trans hb2
  have hw2:Bld w2 w.heap.size (dec (lv (xs.drop (xs.length - 1)))):=by
   rw [Dg xs _ (by omega),List.drop_of_length_le (by omega)];simpa [lv] using hbd2
  clear hb1 hb2 hbd2 hbd hal hc1 hne hc;go_wp2_with fail;go_loopw [4,5] (fun i _ wr=>∃ k:Nat,k<xs.length/\i=.int .i64 ((k:Int) - 1)/\Bld wr w.heap.size (dec (lv (xs.drop k)))/\Below w.heap.size w wr) (fun i _ _=>(intOf i+1).toNat)
  case atStart=>exact ⟨xs.length - 1,by omega,by go_num,hw2,hbel2⟩
  case round =>
   obtain ⟨k,hk,rfl,hbd,hbel⟩:=hrel;clear hw2 hbel2;by_cases hk0:k=0
   ·subst hk0
    go_wp2_with fail;refine (bstring_any _ _ _ hbd hbel.size).mono ?_;rintro e w3 ⟨rfl,_,hb3⟩;go_wp2_with fail;go_ret;exact ⟨Aq (by rw [HV.out]),hbel.trans hb3⟩
   ·obtain ⟨j,rfl⟩:∃ j,k=j+1:=⟨k - 1,by omega⟩
    rw [show ((j+1:Nat):Int) - 1=(j:Int) from by omega];have hcj:wr.cell? ⟨b,off+j,none⟩=some (.int .i64 (aN xs j:Int)):=(hbel.cell (p:=⟨b,off+j,none⟩) hb).trans (hcells j (by omega));have hxj:=AN hx j;have hdl:=dec_len9 hxj;have HS:=hid (str_step n (aN xs j) (lv (xs.drop (j+1))) hxj (HD.out (j+1) hk))
    have hlen2:(dec (lv (xs.drop (j+1)))).length<=9000002:=by
     have h1:lv (xs.drop (j+1))<=n:=by
      rw [<- HV.out];have:=lA (xs.take (j+1)) (xs.drop (j+1));rw [List.take_append_drop] at this;have h3:=Nat.le_mul_of_pos_left (lv (xs.drop (j+1))) (Nat.pow_pos (n:=(xs.take (j+1)).length) (show 0<1000000000 by omega));omega
     have:=ld h1;have:=HL.out;omega
    have hsub:(9:Int) - ((dec (aN xs j)).length:Int)=((9 - (dec (aN xs j)).length:Nat):Int):=by omega
    clear hk0;go_wp2_with fail;refine (itoa_any _ _ (by omega) (ht.below hbel)).mono ?_;rintro e w3 ⟨rfl,hb3⟩;go_wp2_with fail;refine (repeat_any _ _ (by omega)).mono ?_;rintro e w4 ⟨rfl,hb4⟩;go_wp2_with fail;refine (Wy _ _ _ _ ((hbd.below hb3).below hb4) (by simp;omega)).mono ?_;rintro e w5 ⟨rfl,hbd5,hb5⟩;go_wp2_with fail;refine (Wy _ _ _ _ hbd5 (by simp;omega)).mono ?_
    rintro e w6 ⟨rfl,hbd6,hb6⟩;go_wp2_with fail;go_roundw
    case rel =>
     have h4:=(hbel.trans (hb3.mono hbel.size)).trans (hb4.mono (Nat.le_trans hbel.size hb3.size));exact ⟨j,by omega,rfl,by rw [Dg xs j (by omega),<- HS.out];exact hbd6,(h4.trans hb5).trans hb6⟩
    case measure=>simp [intOf]
def Ax (n:Nat):List UInt8:=if (dec n).length<=4096 then dec n else []
def RE (n:Nat):Int:=if (dec n).length<=4096 then 0 else 4
theorem ry (n:Nat) (A:Option Addr) (c:Nat) (w:World) (hA:Nt w A c n) (hl:(nl n).length<=1000000) (ht:Tb w) :
  Calls Tryz.prog 177 #[.slice A (nl n).length c] w fun e w'=>e=.returned (.tuple #[.string (B (Ax n)),.int .i64 (RE n)])/\Below w.heap.size w w':=by
 have hdl:(dec n).length<=9*(nl n).length+1:=dL n _ (Nat.le_refl _);by_cases h:(dec n).length<=4096
 ·have HR:=hid (show Ax n=dec n/\RE n=0 from ⟨if_pos h,if_pos h⟩)
  go_enter Tryz.func177,Tryz.ntmps177;go_wp2_with fail;refine (Sa n A c _ hA hl ht).mono ?_;rintro e w1 ⟨rfl,hb1⟩;go_wp2_with fail;go_ret2;exact ⟨by rw [HR.out.1,HR.out.2];rfl,hb1⟩
 ·have HR:=hid (show Ax n=[]/\RE n=4 from ⟨if_neg h,if_neg h⟩)
  go_enter Tryz.func177,Tryz.ntmps177;go_wp2_with fail;refine (Sa n A c _ hA hl ht).mono ?_;rintro e w1 ⟨rfl,hb1⟩;go_wp2_with fail;go_ret2;exact ⟨by rw [HR.out.1,HR.out.2];rfl,hb1⟩
def addS (a b:List UInt8):List UInt8:=if eT a b=0 then Ax (val a+val b) else []
def addE (a b:List UInt8):Int:=if eT a b=0 then RE (val a+val b) else eT a b
theorem nl_len_of_pow {n k:Nat} (h:n<10 ^ k):(nl n).length<=k :=
 nE.2 (Nat.lt_of_lt_of_le h (Nat.pow_le_pow_left (by omega) _))
theorem Nl {a:List UInt8} (h:right a=true) (hl:a.length<=4096):(nl (val a)).length<=4096 :=
 Nat.le_trans (nl_len_of_pow (val_lt_len h)) hl
theorem Cx {xs:List Nat} {k:Nat} (h:xs.length<=k):lv (xs.take k)=lv xs:=by rw [List.take_of_length_le h]
set_option maxHeartbeats 1000000 in
theorem add_any (a b:List UInt8) (w:World) (ha:a.length<=maxLen) (hb:b.length<=maxLen) (ht:Tb w) :
  Calls Tryz.prog 156 #[.string (B a),.string (B b)] w fun e w'=>e=.returned (.tuple #[.string (B (addS a b)),.int .i64 (addE a b)])/\Below w.heap.size w w':=by
 by_cases he:eT a b=0
 ·obtain ⟨h1,h2,h3,h4⟩:=ez.1 he
  have HR:=hid (show addS a b=Ax (val a+val b)/\addE a b=RE (val a+val b) from ⟨if_pos he,if_pos he⟩);have hla:=Nl h1 h3;have hlb:=Nl h2 h4;clear he;go_enter Tryz.func156,Tryz.ntmps156;go_wp2_with fail;refine (To a b _ h1 h2 h3 h4).mono ?_;rintro e w1 ⟨A,c,A',c',rfl,hA,hA',hb1⟩;have hx:=ln (val a);have hy:=ln (val b);have HX:=hid (lN (val a))
  have HY:=hid (lN (val b));have hpa:=hid (@Pl (val a));have hpb:=hid (@Pl (val b));obtain ⟨hcx,hcl,hcm⟩:=hA;obtain ⟨hcx',hcl',hcm'⟩:=hA';generalize nl (val a)=xs at *;generalize nl (val b)=ys at *;go_wp2_with fail
  go_loopw [9,10,11,12] (fun v cr i _ wr=>∃ (k:Nat) (zs:List Nat) (A2:Option Addr) (c2 carry:Nat),k<=5000/\i=.int .i64 k/\v=.slice A2 k c2/\cr=.int .i64 carry/\OS wr w1.heap.size 3 A2 k c2 (Ns zs) /\
    zs.length=k/\lS zs/\carry<=1/\lv zs+1000000000 ^ k*carry=lv (xs.take k)+lv (ys.take k)/\(k<=max xs.length ys.length∨(k=max xs.length ys.length+1/\carry=0/\1000000000 ^ (k - 1)<=lv zs))/\Below w1.heap.size w1 wr)
   (fun _ _ i _ _=>6000 - (intOf i).toNat)
  case atStart=>exact ⟨0,[],none,0,0,by omega,rfl,rfl,rfl,OS.nil _ _ _,rfl,Ll,by omega,by simp [lv],.inl (by omega),Below.refl _ _⟩
  case round =>
   obtain ⟨k,zs,A2,c2,carry,hk,rfl,rfl,rfl,hown,hzl,hz,hcr,hv,hor,hbel⟩:=hrel;have hmx:imax (xs.length:Int) (ys.length:Int)=((max xs.length ys.length:Nat):Int):=imax_nat _ _;have hmx2:max (xs.length:Int) (ys.length:Int)=((max xs.length ys.length:Nat):Int):=by omega
   by_cases hgo:k<max xs.length ys.length∨0<carry
   ·have hkm:k<=max xs.length ys.length:=by rcases hor with h | h <;> omega
    have HS:=hid (add_step xs ys zs k carry hzl hv);have hxk:=AN hx k;have hyk:=AN hy k;have HZ:=hid hzl;clear hzl hv hor;have hmv:max xs.length ys.length<=4096:=by omega
    have hmxx:xs.length<=max xs.length ys.length:=by omega
    have hmxy:ys.length<=max xs.length ys.length:=by omega
    generalize max xs.length ys.length=mx at *;have hcx1:=hcx.below hbel;have hcy1:=hcx'.below hbel
    have hnew:∀ (hgo:k<mx∨0<carry),k+1<=mx∨(k+1=mx+1/\(aN xs k+aN ys k+carry) / 1000000000=0/\1000000000 ^ k<=lv (zs ++ [(aN xs k+aN ys k+carry) % 1000000000])):=by
     intro hgo;by_cases h:k<mx
     ·left;omega
     ·right
      have:k=mx:=by omega
      have h5:aN xs k=0:=atN_ge (by omega);have h6:aN ys k=0:=atN_ge (by omega);have h7:carry=1:=by omega
      rw [h5,h6,h7];refine ⟨by omega,by decide,?_⟩;rw [Cd,HZ.out];omega
    have HN:=hid (hnew hgo);clear hnew hcx hcx';by_cases hlt:k<mx
    ·clear hgo
     go_wp2_with fail;refine (La xs A c k _ (by omega) hcl hcm hcx1).mono ?_;rintro e w' ⟨rfl,rfl⟩;go_wp2_with fail;refine (La ys A' c' k _ (by omega) hcl' hcm' hcy1).mono ?_;rintro e w' ⟨rfl,rfl⟩;go_wp2_with (at_builtin;refine W1 en rfl _ _ rfl w1.heap.size _ _ _ _ _ _ rfl hown rfl rfl (by unfold maxLen;omega) (by omega) hbel.size ?_;intro A3 c3 w2 hown1 hb2)
     go_roundw
     case rel =>
      refine ⟨k+1,zs ++ [(aN xs k+aN ys k+carry) % 1000000000],A3,c3,(aN xs k+aN ys k+carry) / 1000000000,by omega,by go_num,rfl,by go_num,?_,by simp [HZ.out],Lc hz (by omega),by omega,HS.out,HN.out,hbel.trans hb2⟩;rw [Nc];have e:(((aN xs k+aN ys k+carry) % 1000000000:Nat):Int)=((aN xs k:Int)+(aN ys k:Int)+(carry:Int)) % 1000000000:=by omega
      rw [e];exact hown1
     case measure=>simp [intOf];omega
    ·have hcpos:0<(carry:Int):=by omega
     have hltb:decide (k<mx)=false:=by simpa using hlt
     clear hgo;go_wp2_with fail;refine (La xs A c k _ (by omega) hcl hcm hcx1).mono ?_;rintro e w' ⟨rfl,rfl⟩;go_wp2_with fail;refine (La ys A' c' k _ (by omega) hcl' hcm' hcy1).mono ?_;rintro e w' ⟨rfl,rfl⟩;go_wp2_with (at_builtin;refine W1 en rfl _ _ rfl w1.heap.size _ _ _ _ _ _ rfl hown rfl rfl (by unfold maxLen;omega) (by omega) hbel.size ?_;intro A3 c3 w2 hown1 hb2)
     go_roundw
     case rel =>
      refine ⟨k+1,zs ++ [(aN xs k+aN ys k+carry) % 1000000000],A3,c3,(aN xs k+aN ys k+carry) / 1000000000,by omega,by go_num,rfl,by go_num,?_,by simp [HZ.out],Lc hz (by omega),by omega,HS.out,HN.out,hbel.trans hb2⟩;rw [Nc];have e:(((aN xs k+aN ys k+carry) % 1000000000:Nat):Int)=((aN xs k:Int)+(aN ys k:Int)+(carry:Int)) % 1000000000:=by omega
      rw [e];exact hown1
     case measure=>simp [intOf];omega
   ·have hc0:carry=0:=by omega
    have hval:lv zs=val a+val b:=by
     rw [hc0,Nat.mul_zero,Nat.add_zero,Cx (by omega),Cx (by omega),HX.out,HY.out] at hv;exact hv
    have hlen:zs.length<=(nl (lv zs)).length:=by
     rcases hor with h | h
     ·have hk2:k=max xs.length ys.length:=by omega
      rcases Nat.eq_zero_or_pos k with h0 | h0
      ·omega
      ·have h8:1000000000 ^ (k - 1)<=lv zs:=by
        rw [hval];rcases Nat.le_total ys.length xs.length with h9 | h9
        ·have:=hpa.out (by omega)
         rw [show k=xs.length by omega];omega
        ·have:=hpb.out (by omega)
         rw [show k=ys.length by omega];omega
       have:=nl_len_ge h8;omega
     ·have:=nl_len_ge h.2.2
      omega
    have hnum:Nt wr A2 c2 (val a+val b):=by
     have:=nl_of_len zs hz hlen;rw [hval] at this;refine ⟨?_,?_,hown.cap.2⟩
     ·rw [this];exact hown.cells
     ·rw [this];have:=hown.cap.1;omega
    have hkl:(nl (val a+val b)).length=k:=by
     have:=nl_of_len zs hz hlen;rw [hval] at this;rw [this];exact hzl
    have HK:=hid hkl;have hkm:¬ k<max xs.length ys.length:=by omega
    clear hval hlen hor hv hzl hgo hkl;generalize max xs.length ys.length=mx at *;subst hc0;have hltb:decide (k<mx)=false:=by simpa using hkm
    go_wp2_with fail;have hr:=ry (val a+val b) A2 c2 wr hnum (by rw [HK.out];omega) ((ht.below hb1).below hbel);rw [HK.out] at hr;refine hr.mono ?_;rintro e w3 ⟨rfl,hb3⟩;go_wp2_with fail;go_ret2;exact ⟨by rw [HR.out.1,HR.out.2];rfl,(hb1.trans (hbel.mono hb1.size)).trans (hb3.mono (Nat.le_trans hb1.size hbel.size))⟩
 ·have HR:=hid (show addS a b=[]/\addE a b=eT a b from ⟨if_neg he,if_neg he⟩)
  have hne:(eT a b != 0)=true:=by simpa using he
  go_enter Tryz.func156,Tryz.ntmps156;go_wp2_with fail;refine (te a b _ ha hb he).mono ?_;rintro e w1 ⟨rfl,rfl⟩;clear he;go_wp2_with fail;go_ret2;exact ⟨by rw [HR.out.1,HR.out.2];rfl,Below.refl _ _⟩
def subS (a b:List UInt8):List UInt8:=if eT a b=0 then (if val a<val b then [] else Ax (val a - val b)) else []
def subE (a b:List UInt8):Int:=if eT a b=0 then (if val a<val b then 2 else RE (val a - val b)) else eT a b
theorem sub_any (a b:List UInt8) (w:World) (ha:a.length<=maxLen) (hb:b.length<=maxLen) (ht:Tb w) :
  Calls Tryz.prog 159 #[.string (B a),.string (B b)] w fun e w'=>e=.returned (.tuple #[.string (B (subS a b)),.int .i64 (subE a b)])/\Below w.heap.size w w':=by
 by_cases he:eT a b=0
 ·obtain ⟨h1,h2,h3,h4⟩:=ez.1 he
  have hla:=Nl h1 h3;have hlb:=Nl h2 h4;by_cases hlt:val a<val b
  ·have HR:=hid (show subS a b=[]/\subE a b=2 from ⟨by rw [subS,if_pos he,if_pos hlt],by rw [subE,if_pos he,if_pos hlt]⟩)
   have hcm:=hid (cmpI_lt (show (val a:Int)<val b by omega));clear he hlt;go_enter Tryz.func159,Tryz.ntmps159;go_wp2_with fail;refine (To a b _ h1 h2 h3 h4).mono ?_;rintro e w1 ⟨A,c,A',c',rfl,hA,hA',hb1⟩;go_wp2_with fail;refine (ny (val a) (val b) A A' c c' _ (by omega) (by omega) hA.cells hA'.cells).mono ?_;rintro e w2 ⟨rfl,hb2⟩;rw [hcm.out];go_wp2_with fail;go_ret2
   exact ⟨by rw [HR.out.1,HR.out.2];rfl,hb1.trans (hb2.mono hb1.size)⟩
  ·have HR:=hid (show subS a b=Ax (val a - val b)/\subE a b=RE (val a - val b) from ⟨by rw [subS,if_pos he,if_neg hlt],by rw [subE,if_pos he,if_neg hlt]⟩)
   have hcm:0<=cI (val a:Int) (val b:Int):=by unfold cI;rw [if_neg (by omega)];split <;> omega
   have hln:=nm (show val a - val b<=val a by omega);have hle:val b<=val a:=by omega
   clear he hlt;go_enter Tryz.func159,Tryz.ntmps159;go_wp2_with fail;refine (To a b _ h1 h2 h3 h4).mono ?_;rintro e w1 ⟨A,c,A',c',rfl,hA,hA',hb1⟩;go_wp2_with fail;refine (ny (val a) (val b) A A' c c' _ (by omega) (by omega) hA.cells hA'.cells).mono ?_;rintro e w2 ⟨rfl,hb2⟩;have hA2:=hA.below hb2;have hA2':=hA'.below hb2;go_wp2_with fail
   refine (minus_any (val a) (val b) A A' c c' _ hA2 hA2' (by omega) hle).mono ?_;rintro e w3 ⟨A3,c3,rfl,hn,hb3⟩;go_wp2_with fail;refine (ry _ A3 c3 _ hn (by omega) (((ht.below hb1).below hb2).below hb3)).mono ?_;rintro e w4 ⟨rfl,hb4⟩;have h5:=hb1.trans (hb2.mono hb1.size);have h6:=h5.trans (hb3.mono h5.size);go_wp2_with fail;go_ret2
   exact ⟨by rw [HR.out.1,HR.out.2];rfl,h6.trans (hb4.mono h6.size)⟩
 ·have HR:=hid (show subS a b=[]/\subE a b=eT a b from ⟨if_neg he,if_neg he⟩)
  have hne:(eT a b != 0)=true:=by simpa using he
  go_enter Tryz.func159,Tryz.ntmps159;go_wp2_with fail;refine (te a b _ ha hb he).mono ?_;rintro e w1 ⟨rfl,rfl⟩;clear he;go_wp2_with fail;go_ret2;exact ⟨by rw [HR.out.1,HR.out.2];rfl,Below.refl _ _⟩
def mulS (a b:List UInt8):List UInt8:=if eT a b=0 then Ax (val a*val b) else []
def mulE (a b:List UInt8):Int:=if eT a b=0 then RE (val a*val b) else eT a b
theorem mul_step (zs ys:List Nat) (i k x carry base:Nat) (hl:i+k<zs.length)
  (h:lv zs+1000000000 ^ (i+k)*carry=base+1000000000 ^ i*x*lv (ys.take k)) :
  lv (zs.set (i+k) ((aN zs (i+k)+x*aN ys k+carry) % 1000000000))+1000000000 ^ (i+(k+1))*((aN zs (i+k)+x*aN ys k+carry) / 1000000000) =
   base+1000000000 ^ i*x*lv (ys.take (k+1)):=by
 have h1:=lv_set zs (i+k) ((aN zs (i+k)+x*aN ys k+carry) % 1000000000) hl;generalize hn:aN zs (i+k)+x*aN ys k+carry=n at *;rw [lT,Nat.mul_add,<- Nat.add_assoc base,<- h,show i+(k+1)=i+k+1 from rfl,Nat.pow_succ]
 have h2:1000000000 ^ (i+k)*(n % 1000000000)+1000000000 ^ (i+k)*1000000000*(n / 1000000000)=1000000000 ^ (i+k)*n:=by
  rw [Nat.mul_assoc,<- Nat.mul_add];congr 1;omega
 have h3:1000000000 ^ i*x*(1000000000 ^ k*aN ys k)=1000000000 ^ (i+k)*(x*aN ys k):=by
  rw [Nat.pow_add];simp only [Nat.mul_assoc,Nat.mul_left_comm,Nat.mul_comm]
 rw [h3]
 have h4:1000000000 ^ (i+k)*n=1000000000 ^ (i+k)*aN zs (i+k)+1000000000 ^ (i+k)*(x*aN ys k)+1000000000 ^ (i+k)*carry:=by
  rw [<- hn,Nat.mul_add,Nat.mul_add]
 omega
theorem mul_end (zs xs ys:List Nat) (i carry:Nat) (hl:i+ys.length<zs.length) (hz:aN zs (i+ys.length)=0)
  (h:lv zs+1000000000 ^ (i+ys.length)*carry=lv (xs.take i)*lv ys+1000000000 ^ i*aN xs i*lv (ys.take ys.length)) :
  lv (zs.set (i+ys.length) carry)=lv (xs.take (i+1))*lv ys:=by
 have h1:=lv_set zs (i+ys.length) carry hl;rw [hz,Nat.mul_zero,Nat.add_zero] at h1;rw [h1,h,lT,Nat.add_mul,List.take_of_length_le (Nat.le_refl _)]
theorem mul_bound {z x y c:Nat} (hz:z<1000000000) (hx:x<1000000000) (hy:y<1000000000) (hc:c<1000000000) :
  x*y<=999999998000000001/\(z+x*y+c) / 1000000000<1000000000:=by
 have:x*y<=999999999*999999999:=Nat.mul_le_mul (by omega) (by omega);omega
set_option maxHeartbeats 1000000 in
theorem mul_any (a b:List UInt8) (w:World) (ha:a.length<=maxLen) (hb:b.length<=maxLen) (ht:Tb w) :
  Calls Tryz.prog 174 #[.string (B a),.string (B b)] w fun e w'=>e=.returned (.tuple #[.string (B (mulS a b)),.int .i64 (mulE a b)])/\Below w.heap.size w w':=by
 by_cases he:eT a b=0
 ·obtain ⟨h1,h2,h3,h4⟩:=ez.1 he
  have HR:=hid (show mulS a b=Ax (val a*val b)/\mulE a b=RE (val a*val b) from ⟨if_pos he,if_pos he⟩);have hla:=Nl h1 h3;have hlb:=Nl h2 h4;clear he;go_enter Tryz.func174,Tryz.ntmps174;go_wp2_with fail;refine (To a b _ h1 h2 h3 h4).mono ?_;rintro e w1 ⟨A,c,A',c',rfl,hA,hA',hb1⟩;have hx:=ln (val a);have hy:=ln (val b);have HX:=hid (lN (val a))
  have HY:=hid (lN (val b));obtain ⟨hcx,hcl,hcm⟩:=hA;obtain ⟨hcx',hcl',hcm'⟩:=hA';generalize nl (val a)=xs at *;generalize nl (val b)=ys at *;go_wp2_with (refine wp_mkn en rfl _ _ rfl w1.heap.size _ .i64 .i64 _ _ (xs.length+ys.length) rfl rfl (by go_num) (by go_num) (by omega) (by unfold maxLen;omega) (Nat.le_refl _) rfl ?_;intro A0 w0 hown0 hb0)
  go_loopw [10,11,12,13,14,15,34] (fun _ _ _ _ _ _ i wr=>∃ (k:Nat) (zs:List Nat),k<=xs.length/\i=.int .i64 k/\OS wr w1.heap.size 3 A0 (xs.length+ys.length) (xs.length+ys.length) (Ns zs) /\
    lS zs/\lv zs=lv (xs.take k)*lv ys/\(∀ j,k+ys.length<=j->aN zs j=0)/\Below w1.heap.size w1 wr)
   (fun _ _ _ _ _ _ i _=>xs.length - (intOf i).toNat)
  case atStart=>exact ⟨0,List.replicate (xs.length+ys.length) 0,Nat.zero_le _,rfl,by rw [Nr];exact hown0,Lr _,by rw [lv_replicate];simp [lv],fun j _=>ae _ _,hb0⟩
  case round =>
   obtain ⟨i,zs,hi,rfl,hown,hz,hv,hzero,hbel⟩:=hrel;have hzl:zs.length=xs.length+ys.length:=by have:=hown.len;rw [nL] at this;exact this
   have HZL:=hid hzl;clear hzl;by_cases hlt:i<xs.length
   ·obtain ⟨bx,offx,rfl,hbx,hcellx⟩:=(hcx.below hbel) (by rw [nL];omega)
    have hci:=Cs.num hcellx i hlt;obtain ⟨g,rfl,hg1,hg2,hgc,hgf⟩:=hown.at_ (by omega);have HV:=hid hv;have HZ:=hid hzero;have HB:=hid hcellx;have HGC:=hid hgc;clear hv hzero hcellx hgc;go_wp2_with fail
    go_loopw [12,13,14,15,41] (fun cr _ _ _ j w2=>∃ (k:Nat) (us:List Nat) (carry:Nat),k<=ys.length/\j=.int .i64 k/\cr=.int .i64 carry/\OS w2 w1.heap.size 3 (some ⟨g,0,none⟩) (xs.length+ys.length) (xs.length+ys.length) (Ns us) /\
      lS us/\carry<1000000000/\lv us+1000000000 ^ (i+k)*carry=lv (xs.take i)*lv ys+1000000000 ^ i*aN xs i*lv (ys.take k)/\(∀ j,i+ys.length<=j->aN us j=0)/\Below w1.heap.size w1 w2)
     (fun _ _ _ _ j _=>ys.length - (intOf j).toNat)
    case atStart=>exact ⟨0,zs,0,Nat.zero_le _,rfl,rfl,hown,hz,by omega,by rw [HV.out];simp [lv],HZ.out,hbel⟩
    case round =>
     obtain ⟨k,us,carry,hk,rfl,rfl,hown2,hu,hcr,hv2,hzero2,hbel2⟩:=hrel;have hul:us.length=xs.length+ys.length:=by have:=hown2.len;rw [nL] at this;exact this
     have HUL:=hid hul;have HG2:=hid (hown2.at_ (by omega));clear hul hgf hown hz hbel;obtain ⟨g',hg',hg3,hg4,hgc2,hgf2⟩:=HG2.out;injection hg' with hg'
     injection hg' with hg' _ _
     subst hg';clear HG2;by_cases hkl:k<ys.length
     ·obtain ⟨by',offy,rfl,hby,hcelly⟩:=(hcx'.below hbel2) (by rw [nL];omega)
      have hcj:=Cs.num hcelly k hkl
      have hld:wr.cell? ⟨g,i+k,none⟩=some (.int .i64 (aN us (i+k):Int)):=by
       rw [hgc2 (i+k) (by omega),ng us (i+k) (by have:=HUL.out;omega)]
      have hfr:=hgf2 (i+k);have hus:=AN hu (i+k);have hxi:=AN hx i;have hyk:=AN hy k;have hmb:=mul_bound hus hxi hyk hcr;have HS:=hid (mul_step us ys i k (aN xs i) carry _ (by have:=HUL.out;omega) hv2);have hst:=hown2.stored (i+k) (.int .i64 (((aN us (i+k)+aN xs i*aN ys k+carry) % 1000000000:Nat):Int));rw [<- nu] at hst
      have hq1:((aN xs i*aN ys k:Nat):Int)=(aN xs i:Int)*(aN ys k:Int):=Int.natCast_mul _ _;have hp1:0<=(aN xs i:Int)*(aN ys k:Int):=by rw [<- hq1];omega
      have hp2:(aN xs i:Int)*(aN ys k:Int)<=999999998000000001:=by rw [<- hq1];omega
      have HQ:=hid hq1;have HM:=hid hmb.2;have HST:=hid hst;have HZ2:=hid hzero2;have e:(((aN us (i+k)+aN xs i*aN ys k+carry) % 1000000000:Nat):Int)=((aN us (i+k):Int)+(aN xs i:Int)*(aN ys k:Int)+(carry:Int)) % 1000000000:=by rw [<- hq1];omega
      have HE:=hid e;have e2:(((aN us (i+k)+aN xs i*aN ys k+carry) / 1000000000:Nat):Int)=((aN us (i+k):Int)+(aN xs i:Int)*(aN ys k:Int)+(carry:Int)) / 1000000000:=by rw [<- hq1];omega
      have HE2:=hid e2;clear e2;clear hmb hst hv2 hzero2 hcelly hgc2 hgf2 hq1 e;go_wp2_with fail;go_roundw
      case rel =>
       refine ⟨k+1,us.set (i+k) ((aN us (i+k)+aN xs i*aN ys k+carry) % 1000000000),(aN us (i+k)+aN xs i*aN ys k+carry) / 1000000000,by omega,by go_num,by rw [HE2.out],?_,Bi hu (by omega),HM.out,HS.out,?_,hbel2.setCell hg1 _⟩
       ·have:=HST.out
        rw [HE.out] at this;exact this
       ·intro j hj
        rw [Ch _ _ _ _ (by have:=HUL.out;omega),if_neg (by omega)];exact HZ2.out j hj
      case measure=>simp [intOf];omega
     ·obtain rfl:k=ys.length:=by omega
      have hld:wr.cell? ⟨g,i+ys.length,none⟩=some (.int .i64 0):=by
       rw [hgc2 (i+ys.length) (by omega),ng us (i+ys.length) (by have:=HUL.out;omega),hzero2 _ (by omega)];rfl
      have hfr:=hgf2 (i+ys.length);have HS:=hid (mul_end us xs ys i carry (by have:=HUL.out;omega) (hzero2 _ (by omega)) hv2);have hst:=hown2.stored (i+ys.length) (.int .i64 (carry:Int));rw [<- nu] at hst;have HST:=hid hst;have HZ2:=hid hzero2;clear hst hv2 hzero2 hgc2 hgf2;go_wp2_with fail;go_roundw
      case rel =>
       refine ⟨i+1,us.set (i+ys.length) carry,by omega,by go_num,HST.out,Bi hu hcr,HS.out,?_,hbel2.setCell hg1 _⟩;intro j hj;rw [Ch _ _ _ _ (by have:=HUL.out;omega),if_neg (by omega)];exact HZ2.out j (by omega)
      case measure=>simp [intOf];omega
   ·obtain rfl:i=xs.length:=by omega
    have hval:lv zs=val a*val b:=by rw [hv,List.take_of_length_le (Nat.le_refl _),HX.out,HY.out]
    have HVAL:=hid hval
    have hlen:(nl (val a*val b)).length<=1000000:=by
     have h9:=Dd zs hz;have h10:=congrArg List.length h9;rw [List.length_take,hval,HZL.out] at h10;omega
    clear hval hv hzero;go_wp2_with fail;refine (Tn zs (val a*val b) A0 _ _ _ hz HVAL.out HZL.out hown.cap.1 hown.cap.2 hown.cells).mono ?_;rintro e w' ⟨rfl,hnum,rfl⟩;go_wp2_with fail;refine (ry _ A0 _ _ hnum hlen ((ht.below hb1).below hbel)).mono ?_;rintro e w4 ⟨rfl,hb4⟩;have h5:=hb1.trans (hbel.mono hb1.size);go_wp2_with fail;go_ret2
    exact ⟨by rw [HR.out.1,HR.out.2];rfl,h5.trans (hb4.mono h5.size)⟩
 ·have HR:=hid (show mulS a b=[]/\mulE a b=eT a b from ⟨if_neg he,if_neg he⟩)
  have hne:(eT a b != 0)=true:=by simpa using he
  go_enter Tryz.func174,Tryz.ntmps174;go_wp2_with fail;refine (te a b _ ha hb he).mono ?_;rintro e w1 ⟨rfl,rfl⟩;clear he;go_wp2_with fail;go_ret2;exact ⟨by rw [HR.out.1,HR.out.2];rfl,Below.refl _ _⟩
end Go.Proofs.YtjcekdiocliddaaGreatDoor

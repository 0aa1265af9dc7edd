/- Strings as lists of bytes, slices as lists of values: small lemmas for the walk. -/
import Derived.Test.YtjcekdiocliddaaGreatDoorProg
import Derived.WalkKit
import Derived.WalkSpells
import Derived.WalkLawsBesides
import Derived.Lib.Hide
import Derived.Test.YtjcekdiocliddaaGreatDoorG1
import Derived.Laws.OwnMore
import Derived.Deep.RegionLaw
import Derived.Laws.MakeOwn
import Derived.Laws.BytesArg
import Derived.Lib.AppendStr
namespace Go.Proofs.YtjcekdiocliddaaGreatDoor
open Go.RowKit
def B (l:List UInt8):ByteArray:=⟨l.toArray⟩
def at8 (l:List UInt8) (i:Nat):UInt8:=l.getD i 0
theorem B_size (l:List UInt8):(B l).size=l.length:=by simp [B,ByteArray.size]
theorem B_get (l:List UInt8) (i:Nat) (h:i<(B l).size):(B l)[i]'h=at8 l i:=by
 rw [B_size] at h
 simp [B,ByteArray.getElem_eq_getElem_data,at8,h]
theorem B_toList (l:List UInt8):(B l).toList=l:=by simp [B]
theorem B_mk (l:List UInt8):ByteArray.mk (List.toArray l)=B l:=rfl
theorem B_extract (l:List UInt8) (i j:Nat):(B l).extract i j=B ((l.take j).drop i):=by
 show (ByteArray.mk l.toArray).extract i j=_
 rw [ByteArray.extract_mk,List.drop_take];rfl
theorem B_append (a b:List UInt8):B a ++ B b=B (a ++ b):=ByteArray.mk_append_mk a b
theorem B_of (s:ByteArray):s=B s.data.toList:=by simp [B]
attribute [local go_sem] B_size B_get B_toList B_mk B_extract
theorem at8_eq (l:List UInt8) (i:Nat) (h:i<l.length):at8 l i=l[i]:=by simp [at8,h]
theorem at8_zero_head (l:List UInt8) (h:l≠[]):l.head? = some (at8 l 0):=by cases l;exact absurd rfl h;simp [at8]
theorem below_drewN {B:Nat} {a w:World} (h:Below B a w) (n:Nat):Below B a (w.drewN n):=⟨h.os,h.tape,h.output,h.size,h.block⟩
theorem ret_int {a b:Int} (h:a=b):Ending.returned (.int .i64 a)=.returned (.int .i64 b):=by rw [h]
theorem ret_str {a b:List UInt8} (h:a=b):Ending.returned (.string (B a))=.returned (.string (B b)):=by rw [h]
theorem ret_slice {A:Option Addr} {n m c:Nat} (h:n=m):Ending.returned (.slice A n c)=.returned (.slice A m c):=by rw [h]
theorem ret_bool {a b:Bool} (h:a=b):Ending.returned (.bool a)=.returned (.bool b):=by rw [h]
def imax (x y:Int):Int:=if y > x then y else x
theorem run_max2 {P:Program} (w:World) (ts:Array TypeId) (t:TypeId) (k k':IntKind) (x y:Int):(Builtin.max_ ts t #[.int k x,.int k' y]).run P w=.ok (.int k (imax x y)) w:=by
 rw [run_max_int2];rfl
theorem imax_nat (a b:Nat):imax (a:Int) (b:Int)=((max a b:Nat):Int):=by unfold imax;split <;> omega
theorem imax_pos (x:Int):imax 0 x=(x.toNat:Int):=by unfold imax;split <;> omega
open Num
theorem all_take_succ {l:List UInt8} {p:UInt8→Bool} {k:Nat} (h:k<l.length) (h1:(l.take k).all p=true) (h2:p (at8 l k)=true):(l.take (k+1)).all p=true:=by
 rw [List.take_succ_eq_append_getElem h,List.all_append,h1];simpa [at8_eq l k h] using h2
theorem not_all_of {l:List UInt8} {p:UInt8→Bool} {k:Nat} (h:k<l.length) (h2:p (at8 l k)=false):l.all p=false:=by
 rw [List.all_eq_false];exact ⟨l[k],List.getElem_mem h,by rw [← at8_eq l k h,h2];simp⟩
def Cells (w:World) (A:Option Addr) (vs:List Value):Prop :=
 0<vs.length→∃ b off,A=some ⟨b,off,none⟩∧b<w.heap.size∧∀ j u,vs[j]? = some u→w.cell? ⟨b,off+j,none⟩=some u
def atN (xs:List Nat) (j:Nat):Nat:=xs.getD j 0
def nums (xs:List Nat):List Value:=xs.map fun x:Nat=>Value.int .i64 (x:Int)
theorem nums_length (xs:List Nat):(nums xs).length=xs.length:=by simp [nums]
theorem nums_get (xs:List Nat) (j:Nat) (h:j<xs.length):(nums xs)[j]? = some (.int .i64 (atN xs j:Int)):=by simp [nums,atN,h]
theorem Cells.num {w:World} {b off:Nat} {xs:List Nat} (h:∀ j u,(nums xs)[j]? = some u→w.cell? ⟨b,off+j,none⟩=some u) (j:Nat) (hj:j<xs.length) :
  w.cell? ⟨b,off+j,none⟩=some (.int .i64 (atN xs j:Int)):=h j _ (nums_get xs j hj)
theorem Cells.keep {w w':World} {A:Option Addr} {vs:List Value} (h:Cells w A vs) (hs:w.heap.size≤w'.heap.size) (hk:∀ p:Addr,p.block<w.heap.size→w'.cell? p=w.cell? p):Cells w' A vs:=fun h0=>by
 obtain ⟨b,off,e,hb,hc⟩:=h h0
 exact ⟨b,off,e,by omega,fun j u hu=>(hk ⟨b,off+j,none⟩ hb).trans (hc j u hu)⟩
theorem Cells.below {w w':World} {A:Option Addr} {vs:List Value} (h:Cells w A vs) (hb:Below w.heap.size w w'):Cells w' A vs :=
 h.keep hb.size fun p hp=>hb.cell (p:=p) hp
theorem Cells.nil (w:World) (A:Option Addr):Cells w A []:=fun h=>absurd h (by simp)
theorem Cells.take {w:World} {A:Option Addr} {vs:List Value} (h:Cells w A vs) (k:Nat):Cells w A (vs.take k):=fun h0=>by
 obtain ⟨b,off,e,hb,hc⟩:=h (by rw [List.length_take] at h0;omega)
 refine ⟨b,off,e,hb,fun j u hu=>hc j u ?_⟩
 rw [List.getElem?_take] at hu
 split at hu
 ·exact hu
 ·cases hu
end Go.Proofs.YtjcekdiocliddaaGreatDoor
namespace Go.Proofs.YtjcekdiocliddaaGreatDoor
open Num
set_option linter.unusedVariables false
def seg (l:List UInt8) (a b:Nat):Nat:=val ((l.take b).drop a)
theorem seg_self (l:List UInt8) (a:Nat):seg l a a=0:=by
 unfold seg;rw [List.drop_of_length_le (by rw [List.length_take];omega)];rfl
theorem seg_succ (l:List UInt8) (a k:Nat) (ha:a≤k) (h:k<l.length):seg l a (k+1)=10*seg l a k+dv (at8 l k):=by
 unfold seg
 rw [List.take_succ_eq_append_getElem h,List.drop_append_of_le_length (by rw [List.length_take];omega),val_snoc,at8_eq l k h]
theorem all_sub {l:List UInt8} {p:UInt8→Bool} (h:l.all p=true) (a b:Nat):((l.take b).drop a).all p=true:=by
 rw [List.all_eq_true] at h ⊢
 intro x hx
 exact h x (List.mem_of_mem_take (List.mem_of_mem_drop hx))
theorem seg_lt (l:List UInt8) (a b:Nat) (h:l.all isDig=true) (hb:b≤a+9):seg l a b<1000000000:=by
 have h1:=val_lt _ (all_sub h a b)
 have h2:((l.take b).drop a).length≤9:=by rw [List.length_drop,List.length_take];omega
 have h3:10 ^ ((l.take b).drop a).length≤10 ^ 9:=Nat.pow_le_pow_right (by omega) h2
 unfold seg;omega
theorem dig_of_all {l:List UInt8} (h:l.all isDig=true) {k:Nat} (hk:k<l.length):48≤(at8 l k).toNat∧(at8 l k).toNat≤57:=by
 rw [List.all_eq_true] at h
 have:=h l[k] (List.getElem_mem hk)
 rw [← at8_eq l k hk] at this
 simpa [isDig] using this
theorem val_split (l:List UInt8) (a:Nat) (h:a≤l.length):val l=val (l.take a)*10 ^ (l.length - a)+seg l a l.length:=by
 have:=val_append (l.take a) (l.drop a)
 rw [List.take_append_drop,List.length_drop] at this
 rw [this];unfold seg;rw [List.take_of_length_le (Nat.le_refl _)]
end Go.Proofs.YtjcekdiocliddaaGreatDoor
namespace Go.Proofs.YtjcekdiocliddaaGreatDoor
open Go.RowKit Num
attribute [local go_sem] B_size B_get B_toList B_mk
set_option maxHeartbeats 400000 in
theorem right_any (l:List UInt8) (w:World) (hs:l.length≤maxLen) :
  Calls Tryz.prog 172 #[.string (B l)] w fun e w'=>e=.returned (.bool (right l))∧w'=w:=by
 unfold maxLen at hs
 by_cases h0:l=[]
 ·subst h0
  go_enter Tryz.func172,Tryz.ntmps172
  go_wp2
  go_ret
  exact ⟨rfl,rfl⟩
 ·have hlen:0<l.length:=List.length_pos_iff.2 h0
  have he:l.isEmpty=false:=by simpa using h0
  have hh:=Lib.hid (at8_zero_head l h0)
  have loop:(((at8 l 0).toNat:Int) == 48)=false∨((((at8 l 0).toNat:Int) == 48)=true∧(!(l == [48]))=false) →
    Calls Tryz.prog 172 #[.string (B l)] w fun e w'=>e=.returned (.bool (right l))∧w'=w:=by
   intro hor
   have hr:right l=l.all isDig:=by
    unfold right;rw [he,hh.out]
    rcases hor with h | ⟨h,h1⟩
    ·have:at8 l 0≠48:=by rintro e;rw [e] at h;simp at h
     simp [this]
    ·rw [Bool.not_eq_false'] at h1;rw [h1];simp
   have HR:=Lib.hid hr
   clear hr hh h0
   rcases hor with h1 | ⟨h1,h2⟩
   all_goals
    go_enter Tryz.func172,Tryz.ntmps172
    go_wp2
    go_loop [3,17] (fun _ i=>∃ k:Nat,k≤l.length∧i=.int .i64 k∧(l.take k).all isDig=true) (fun _ i=>l.length - (intOf i).toNat)
    case atStart=>exact ⟨0,Nat.zero_le _,rfl,by simp⟩
    case round =>
     obtain ⟨k,hk,rfl,hall⟩:=hrel
     have HA:=Lib.hid hall
     clear hall h1
     by_cases hlt:k<l.length
     ·by_cases hd:isDig (at8 l k)=true
      ·have hd':48≤((at8 l k).toNat:Int)∧((at8 l k).toNat:Int)≤57:=by simp [isDig] at hd;omega
       have HT:=Lib.hid (all_take_succ hlt HA.out hd)
       clear hd
       go_wp2
       go_round
       case rel=>exact ⟨k+1,by omega,by go_num,HT.out⟩
       case measure=>simp [intOf];omega
      ·have HT:=Lib.hid (not_all_of (p:=isDig) hlt (by simpa using hd))
       by_cases hlo:((at8 l k).toNat:Int)<48
       ·clear hd
        go_wp2
        go_ret
        exact ⟨ret_bool (by rw [HR.out,HT.out]),rfl⟩
       ·have hhi:(57:Int)<((at8 l k).toNat:Int):=by simp [isDig] at hd;omega
        clear hd
        go_wp2
        go_ret
        exact ⟨ret_bool (by rw [HR.out,HT.out]),rfl⟩
     ·go_wp2
      go_ret
      exact ⟨ret_bool (by rw [HR.out,← HA.out,List.take_of_length_le (by omega)]),rfl⟩
  by_cases h1:(((at8 l 0).toNat:Int) == 48)=true
  ·by_cases h2:(!(l == [48]))=false
   ·exact loop (.inr ⟨h1,h2⟩)
   ·have h2':(!(l == [48]))=true:=by simpa using h2
    have hr:right l=false:=by
     unfold right;rw [he,hh.out]
     have:at8 l 0=48:=by apply UInt8.toNat_inj.1;simp at h1;simp;omega
     rw [this]
     simp at h2'
     simp [h2']
    have HR:=Lib.hid hr
    clear hr hh h0 h2 loop
    go_enter Tryz.func172,Tryz.ntmps172
    go_wp2
    go_ret
    exact ⟨ret_bool HR.out.symm,rfl⟩
  ·exact loop (.inl (by simpa using h1))
theorem trim_len (xs:List Nat) (k:Nat) (hx:limbs xs) (hk:k≤xs.length) (he:lv (xs.take k)=lv xs) (h:k=0∨atN xs (k - 1)≠0):(nl (lv xs)).length=k∧xs.take k=nl (lv xs):=by
 have h1:limbs (xs.take k):=fun x hx'=>hx x (List.mem_of_mem_take hx')
 have h2:(xs.take k).getLast? ≠ some 0:=by
  rcases h with rfl | h
  ·simp
  ·by_cases h0:k=0
   ·subst h0;simp
   ·rw [List.getLast?_eq_getElem?,List.length_take,Nat.min_eq_left hk,List.getElem?_take]
    rw [if_pos (by omega)]
    intro e
    apply h
    unfold atN
    rw [List.getD_eq_getElem?_getD,e];rfl
 have:=nl_lv _ h1 h2
 rw [he] at this
 rw [this]
 simp [hk]
theorem take_zero_step (xs:List Nat) (k:Nat) (hk:k<xs.length) (h:atN xs k=0):lv (xs.take k)=lv (xs.take (k+1)):=by
 rw [List.take_succ_eq_append_getElem hk]
 have:xs[k]=0:=by simpa [atN,hk] using h
 rw [this,lv_snoc_zero]
theorem take_nl (xs:List Nat) (hx:limbs xs):xs.take (nl (lv xs)).length=nl (lv xs):=by
 have:∀ k,k≤xs.length→lv (xs.take k)=lv xs→xs.take (nl (lv xs)).length=nl (lv xs):=by
  intro k
  induction k with
  |zero=>intro hk he;have:=trim_len xs 0 hx hk he (.inl rfl);rw [this.1];exact this.2
  |succ k ih =>
   intro hk he
   by_cases h:atN xs k=0
   ·exact ih (by omega) (by rw [take_zero_step xs k (by omega) h];exact he)
   ·have:=trim_len xs (k+1) hx hk he (.inr (by simpa using h));rw [this.1];exact this.2
 exact this xs.length (Nat.le_refl _) (by simp)
theorem trim_loop (xs:List Nat) (b off c:Nat) (w:World) (hx:limbs xs) (hl:xs.length≤c) (hm:c≤maxLen)
  (hc:∀ j,j<xs.length→w.cell? ⟨b,off+j,none⟩=some (.int .i64 (atN xs j:Int))) :
  Calls Tryz.prog 192 #[.slice (some ⟨b,off,none⟩) xs.length c] w fun e w'=>e=.returned (.slice (some ⟨b,off,none⟩) (nl (lv xs)).length c)∧w'=w:=by
 unfold maxLen at hm
 go_enter Tryz.func192,Tryz.ntmps192
 go_wp2
 go_loop [0] (fun v=>∃ k:Nat,k≤xs.length∧v=.slice (some ⟨b,off,none⟩) k c∧lv (xs.take k)=lv xs) (fun v=>match v with | .slice _ k _=>k | _=>0)
 case atStart=>exact ⟨xs.length,Nat.le_refl _,rfl,by simp⟩
 case round =>
  obtain ⟨k,hk,rfl,he⟩:=hrel
  have HE:=Lib.hid he
  clear he
  by_cases h0:k=0
  ·subst h0
   go_wp2
   go_ret
   exact ⟨congrArg Ending.returned (by rw [(trim_len xs 0 hx hk HE.out (.inl rfl)).1];rfl),rfl⟩
  ·have hc':w.cell? ⟨b,off+(k - 1),none⟩=some (.int .i64 (atN xs (k - 1):Int)):=hc (k - 1) (by omega)
   by_cases h1:atN xs (k - 1)=0
   ·have HS:=Lib.hid (take_zero_step xs (k - 1) (by omega) h1)
    have h1':((atN xs (k - 1):Int) == 0)=true:=by rw [h1];rfl
    clear h1
    go_wp2
    go_round
    case rel=>exact ⟨k - 1,by omega,rfl,by rw [HS.out,show k - 1+1=k by omega,HE.out]⟩
    case measure=>simp;omega
   ·have HS:=Lib.hid (trim_len xs k hx hk HE.out (.inr h1))
    have h1':((atN xs (k - 1):Int) == 0)=false:=by rw [beq_eq_false_iff_ne];omega
    clear h1
    go_wp2
    go_ret
    exact ⟨congrArg Ending.returned (by rw [HS.out.1];rfl),rfl⟩
theorem trim_any (xs:List Nat) (A:Option Addr) (c:Nat) (w:World) (hx:limbs xs) (hl:xs.length≤c) (hm:c≤maxLen) (hc:Cells w A (nums xs)) :
  Calls Tryz.prog 192 #[.slice A xs.length c] w fun e w'=>e=.returned (.slice A (nl (lv xs)).length c)∧w'=w:=by
 by_cases h0:xs.length=0
 ·have:xs=[]:=List.eq_nil_of_length_eq_zero h0
  subst this
  have hn:(nl (lv [])).length=0:=by rw [lv,nl_zero];rfl
  rw [hn]
  go_enter Tryz.func192,Tryz.ntmps192
  go_wp2
  go_loop [0] (fun v=>v=.slice A 0 c) (fun _=>0)
  case atStart=>rfl
  case round =>
   subst hrel
   go_wp2
   go_ret
   exact ⟨rfl,rfl⟩
 ·obtain ⟨b,off,rfl,hb,h⟩:=hc (by rw [nums_length];omega)
  exact trim_loop xs b off c w hx hl hm (Cells.num h)
def cmpI (a b:Int):Int:=if a<b then -1 else if b<a then 1 else 0
def cmpS (a b:List UInt8):Int:=if Op.bytesLess a b then -1 else if a=b then 0 else 1
theorem cmp_int_any (a b:Int) (w:World):Calls Tryz.prog 189 #[.int .i64 a,.int .i64 b] w fun e w'=>e=.returned (.int .i64 (cmpI a b))∧w'=w:=by
 have h1:(a != a)=false:=by simp
 have h2:(b != b)=false:=by simp
 by_cases h:a<b
 ·go_enter Tryz.func189,Tryz.ntmps189
  go_wp2
  go_ret
  exact ⟨ret_int (by simp [cmpI,h]),rfl⟩
 ·by_cases h':b<a
  ·go_enter Tryz.func189,Tryz.ntmps189
   go_wp2
   go_ret
   exact ⟨ret_int (by rw [cmpI,if_neg (by omega),if_pos h']),rfl⟩
  ·go_enter Tryz.func189,Tryz.ntmps189
   go_wp2
   go_ret
   exact ⟨ret_int (by rw [cmpI,if_neg (by omega),if_neg (by omega)]),rfl⟩
def or2 (a b:Int):Int:=if a=0 then b else a
theorem bytesLess_val:∀ (a b:List UInt8),a.length=b.length→a.all isDig=true→b.all isDig=true→Op.bytesLess a b=decide (val a<val b):=by
 intro a
 induction a with
 |nil =>
  intro b h _ _
  have:b=[]:=List.eq_nil_of_length_eq_zero h.symm
  subst this
  rw [Op.bytesLess];simp
 |cons c s ih =>
  intro b h h1 h2
  cases b with
  |nil=>simp at h
  |cons d t =>
   simp only [List.all_cons,Bool.and_eq_true] at h1 h2
   have hl:s.length=t.length:=by simpa using h
   rw [Op.bytesLess,ih t hl h1.2 h2.2,val_cons,val_cons,hl]
   have b1:=val_lt s h1.2
   have b2:=val_lt t h2.2
   rw [hl] at b1
   have hc:c=d↔dv c=dv d:=⟨fun e=>by rw [e],fun e=>by rw [← dch_dv h1.1,← dch_dv h2.1,e]⟩
   have hlt:c<d↔dv c<dv d:=by
    rw [UInt8.lt_iff_toNat_lt]
    have:=h1.1;have:=h2.1
    unfold isDig at *;simp at *;unfold dv;omega
   rw [Bool.eq_iff_iff]
   simp only [Bool.or_eq_true,decide_eq_true_eq,Bool.and_eq_true,beq_iff_eq,hc,hlt]
   rcases Nat.lt_trichotomy (dv c) (dv d) with h3 | h3 | h3
   ·have:=Nat.mul_le_mul_right (10 ^ t.length) (show dv c+1≤dv d by omega)
    rw [Nat.add_mul] at this
    constructor
    ·intro _;omega
    ·intro _;left;omega
   ·rw [h3]
    constructor
    ·rintro (h | ⟨_,h⟩) <;> omega
    ·intro h;right;exact ⟨rfl,by omega⟩
   ·have:=Nat.mul_le_mul_right (10 ^ t.length) (show dv d+1≤dv c by omega)
    rw [Nat.add_mul] at this
    constructor
    ·rintro (h | ⟨h,_⟩) <;> omega
    ·intro _;omega
theorem val_lt_of_len {a b:List UInt8} (ha:right a=true) (hb:right b=true) (h:a.length<b.length):val a<val b:=by
 have h1:=val_lt_len ha
 have h2:¬ val b<10 ^ a.length:=by
  intro h3
  have:=(length_dec_le (n:=val b) (k:=a.length) (List.length_pos_iff.2 (right_ne ha))).2 h3
  rw [dec_val hb] at this
  omega
 omega
theorem val_inj {a b:List UInt8} (ha:right a=true) (hb:right b=true) (h:val a=val b):a=b:=by
 rw [← dec_val ha,← dec_val hb,h]
def cmpT (a b:List UInt8):Int:=if right a=true∧right b=true then cmpI (val a) (val b) else 0
theorem cmpT_right {a b:List UInt8} (ha:right a=true) (hb:right b=true):cmpT a b=cmpI (val a) (val b):=by rw [cmpT,if_pos ⟨ha,hb⟩]
theorem cmpI_cast (a b:Nat):cmpI (a:Int) (b:Int)=if a<b then -1 else if b<a then 1 else 0:=by
 unfold cmpI;simp only [Int.ofNat_lt]
theorem cmpI_lt {a b:Int} (h:a<b):cmpI a b = -1:=by rw [cmpI,if_pos h]
theorem cmpI_gt {a b:Int} (h:b<a):cmpI a b=1:=by rw [cmpI,if_neg (by omega),if_pos h]
theorem cmpI_eq {a b:Int} (h:a=b):cmpI a b=0:=by rw [cmpI,if_neg (by omega),if_neg (by omega)]
theorem cmp_law {a b:List UInt8} (ha:right a=true) (hb:right b=true):or2 (cmpI a.length b.length) (cmpS a b)=cmpT a b:=by
 rw [cmpT_right ha hb,cmpI_cast,cmpI_cast]
 rcases Nat.lt_trichotomy a.length b.length with h | h | h
 ·have:=val_lt_of_len ha hb h
  rw [if_pos h,if_pos this];rfl
 ·rw [if_neg (by omega),if_neg (by omega)]
  show cmpS a b=_
  rw [cmpS,bytesLess_val a b h (right_all ha) (right_all hb)]
  by_cases h1:val a<val b
  ·simp [h1]
  ·by_cases h2:val b<val a
   ·have:a≠b:=by rintro rfl;omega
    simp [h1,h2,this]
   ·have:a=b:=val_inj ha hb (by omega)
    simp [this]
 ·have:=val_lt_of_len hb ha h
  rw [if_neg (by omega),if_pos h,if_neg (by omega),if_pos this];rfl
theorem cmpT_swap (a b:List UInt8):cmpT b a = - cmpT a b:=by
 unfold cmpT
 by_cases h:right a=true∧right b=true
 ·rw [if_pos h,if_pos h.symm,cmpI_cast,cmpI_cast]
  rcases Nat.lt_trichotomy (val a) (val b) with h | h | h
  ·rw [if_neg (by omega),if_pos h,if_pos h];rfl
  ·rw [if_neg (by omega),if_neg (by omega),if_neg (by omega),if_neg (by omega)];rfl
  ·rw [if_pos h,if_neg (by omega),if_pos h]
 ·rw [if_neg h,if_neg (fun h'=>h h'.symm)];rfl
end Go.Proofs.YtjcekdiocliddaaGreatDoor
namespace Go.Proofs.YtjcekdiocliddaaGreatDoor
open Go.RowKit
def OwnS (w:World) (Bs:Nat) (e:TypeId) (A:Option Addr) (n c:Nat) (xs:List Value):Prop:=w.ownsRow Bs e 1 (.slice A n c) n xs
theorem OwnS.nil (w:World) (Bs:Nat) (e:TypeId):OwnS w Bs e none 0 0 []:=⟨by simp,.inl ⟨rfl,rfl⟩⟩
theorem OwnS.len {w:World} {Bs:Nat} {e:TypeId} {A:Option Addr} {n c:Nat} {xs:List Value} (h:OwnS w Bs e A n c xs):xs.length=n:=by have:=h.1;omega
theorem OwnS.cap {w:World} {Bs:Nat} {e:TypeId} {A:Option Addr} {n c:Nat} {xs:List Value} (h:OwnS w Bs e A n c xs):n≤c∧c≤maxLen:=by
 rcases h.2 with ⟨hv,hn⟩ | ⟨g,cap,cur,hv,_,_,h1,h2,_⟩
 ·injection hv with _ _ hc;subst hc;subst hn;exact ⟨Nat.le_refl _,Nat.zero_le _⟩
 ·injection hv with _ _ hc;subst hc;exact ⟨h1,h2⟩
theorem OwnS.cells {w:World} {Bs:Nat} {e:TypeId} {A:Option Addr} {n c:Nat} {xs:List Value} (h:OwnS w Bs e A n c xs):Cells w A xs:=by
 intro h0
 rcases h.2 with ⟨hv,hn⟩ | ⟨g,cap,cur,hv,_,hh,h1,_,_,h4⟩
 ·have:=h.1;omega
 ·injection hv with hA _ hc
  subst hA;subst hc
  refine ⟨g,0,rfl,?_,fun j u hu=>?_⟩
  ·rcases Nat.lt_or_ge g w.heap.size with h' | h'
   ·exact h'
   ·rw [Array.getElem?_eq_none h'] at hh;cases hh
  ·have hj:j<xs.length:=(List.getElem?_eq_some_iff.1 hu).1
   have:=World.ownsRow.cellAt h j (by have:=h.1;omega)
   rw [Nat.zero_add,this,hu]
theorem OwnS.below {w w':World} {Bs:Nat} {e:TypeId} {A:Option Addr} {n c:Nat} {xs:List Value} (h:OwnS w Bs e A n c xs) (hb:Below w.heap.size w w'):OwnS w' Bs e A n c xs:=by
 refine ⟨h.1,?_⟩
 rcases h.2 with h2 | ⟨g,cap,cur,hv,hg,hh,r⟩
 ·exact .inl h2
 ·refine .inr ⟨g,cap,cur,hv,hg,?_,r⟩
  rw [hb.block g ?_];exact hh
  rcases Nat.lt_or_ge g w.heap.size with h' | h'
  ·exact h'
  ·rw [Array.getElem?_eq_none h'] at hh;cases hh
theorem OwnS.mono {w:World} {Bs Bs':Nat} {e:TypeId} {A:Option Addr} {n c:Nat} {xs:List Value} (h:OwnS w Bs e A n c xs) (hB:Bs'≤Bs):OwnS w Bs' e A n c xs:=by
 refine ⟨h.1,?_⟩
 rcases h.2 with h2 | ⟨g,cap,cur,hv,hg,r⟩
 ·exact .inl h2
 ·exact .inr ⟨g,cap,cur,hv,by omega,r⟩
theorem OwnS.alloc {w:World} {Bs:Nat} {e:TypeId} {A:Option Addr} {n c:Nat} {xs:List Value} (h:OwnS w Bs e A n c xs) (o:Obj):OwnS (w.alloc o) Bs e A n c xs :=
 h.below ((Below.refl _ _).alloc (Nat.le_refl _) _)
theorem OwnS.at_ {w:World} {Bs:Nat} {e:TypeId} {A:Option Addr} {n c:Nat} {xs:List Value} (h:OwnS w Bs e A n c xs) (h0:0<n) :
  ∃ g,A=some ⟨g,0,none⟩∧Bs≤g∧g<w.heap.size∧(∀ j,j<n→w.cell? ⟨g,j,none⟩=xs[j]?)∧∀ j,w.frozen? ⟨g,j,none⟩=false:=by
 rcases h.2 with ⟨hv,hn⟩ | ⟨g,cap,cur,hv,hg,hh,h1,_,_,h4⟩
 ·omega
 ·injection hv with hA _ hc
  subst hA;subst hc
  refine ⟨g,rfl,hg,?_,fun j hj=>World.ownsRow.cellAt h j (by omega),fun j=>World.ownsRow.frozenAt h j⟩
  rcases Nat.lt_or_ge g w.heap.size with h' | h'
  ·exact h'
  ·rw [Array.getElem?_eq_none h'] at hh;cases hh
theorem OwnS.stored {w:World} {Bs g:Nat} {e:TypeId} {n c:Nat} {xs:List Value} (h:OwnS w Bs e (some ⟨g,0,none⟩) n c xs) (j:Nat) (u:Value) :
  OwnS (w.setCell ⟨g,j,none⟩ u) Bs e (some ⟨g,0,none⟩) n c (xs.set j u):=(World.ownsRow.stored h j u).1
def Elem (P:Program) (t e:TypeId) (z:Value) (bytes:Nat):Prop :=
 P.underlying t=some (.slice e)∧(∃ i,P.info? e=some i∧i.zero=some z∧i.size=1∧i.bytes=bytes)∧z.cells.size=1
section
variable {P:Program} {ops:Array Oper} {rest:List Oper} {o:Oper} {a:Act} {Q:Exit→Act→World→Prop}
theorem wp_app1 {t e:TypeId} {z:Value} {bytes:Nat} (he:Elem P t e z bytes) (hgd:o.guard=none) (s x:Operand) (ho:o.op=.call { callee:=.builtin .append,args:=#[s,x],argTypes:=#[t,t] })
  (Bs:Nat) (A:Option Addr) (n c:Nat) (xs:List Value) (w:World) (u:Value) (hs:a.eval s=.slice A n c) (hown:OwnS w Bs e A n c xs)
  (hx:a.eval x=.slice (some ⟨w.heap.size,0,none⟩) 1 1) (h1:u.oneCell'=true) (h63:n+1≤maxLen) (hby:(n+1)*bytes≤140737488355328) (hbase:Bs≤w.heap.size)
  (h:∀ A' c' w',OwnS w' Bs e A' (n+1) c' (xs ++ [u])→Below Bs w w'→wpList P ops Q rest (a.put o.dst (.slice A' (n+1) c')) w') :
  wpList P ops Q (o :: rest) a (w.alloc (.cells #[u] e)):=by
 obtain ⟨ht,⟨i,hi,hz,hsz,hb⟩,hzs⟩:=he
 have hown':(w.alloc (.cells #[u] e)).ownsRow Bs e 1 (.slice A n c) n xs:=hown.alloc _
 refine wpList_append_own _ hgd s x t ho Bs e i z 1 bytes ht hi hz hsz hb hzs (by decide) _ n xs hs hown' ⟨w.heap.size,0,none⟩ 1 1 [u] hx rfl ?_ (by simpa using h1) h63 hby (by simp;omega) ?_
 ·intro j v hj
  match j,hj with
  |0,hj=>simp at hj;subst hj;simp [Addr.add]
 ·intro v' w' h2 h3 h4
  have hne:v'≠.slice none 0 0:=by intro e;have:=(h4.1 e).2;omega
  obtain ⟨g,cap,hv⟩:∃ g cap,v'=.slice (some ⟨g,0,none⟩) (n+1) cap:=by
   rcases h2.2 with ⟨hv,_⟩ | ⟨g,cap,cur,hv,_⟩
   ·exact absurd hv hne
   ·exact ⟨g,cap,hv⟩
  subst hv
  refine h _ _ _ h2 ?_
  refine ((Below.refl _ _).alloc hbase _).grown h3 (by simp;omega) ?_
  intro k hk
  rcases hown.2 with ⟨hv,_⟩ | ⟨g',cap',cur',hv,hg',_⟩
  ·rw [hv] at hk;simp [Value.ownBlock] at hk
  ·rw [hv] at hk;simp [Value.ownBlock] at hk;omega
theorem wp_mk0 {t e:TypeId} {z:Value} {bytes:Nat} (he:Elem P t e z bytes) (hgd:o.guard=none) (l c:Operand) (hop:o.op=Op.makeSlice t l c)
  (Bs:Nat) (w:World) (kl kc:IntKind) (C:Int) (n:Nat) (hl:a.eval l=.int kl 0) (hc:a.eval c=.int kc C) (hC:C=(n:Int)) (hby:bytes*n≤281474976710656) (h63:n≤maxLen) (hbase:Bs≤w.heap.size)
  (h:∀ A' w',OwnS w' Bs e A' 0 n []→Below Bs w w'→wpList P ops Q rest (a.put o.dst (.slice A' 0 n)) w') :
  wpList P ops Q (o :: rest) a w:=by
 obtain ⟨ht,⟨i,hi,hz,hsz,hb⟩,hzs⟩:=he
 refine wpList_make_own _ hgd l c t hop Bs e i z 1 ht hi hz hsz kl kc C n hl hc hC (by rw [hb];exact hby) h63 hbase ?_
 intro w' h1 h2
 exact h _ _ h1 ((Below.refl _ _).grown h2 hbase (fun k hk=>by cases hk))
theorem wp_mkn {t e:TypeId} {z:Value} {bytes:Nat} (he:Elem P t e z bytes) (hgd:o.guard=none) (l c:Operand) (hop:o.op=Op.makeSlice t l c)
  (Bs:Nat) (w:World) (kl kc:IntKind) (L C:Int) (n:Nat) (hl:a.eval l=.int kl L) (hc:a.eval c=.int kc C) (hL:L=(n:Int)) (hC:C=(n:Int)) (hby:bytes*n≤281474976710656) (h63:n≤maxLen) (hbase:Bs≤w.heap.size)
  (hz1:z.cells=#[z])
  (h:∀ A' w',OwnS w' Bs e A' n n (List.replicate n z)→Below Bs w w'→wpList P ops Q rest (a.put o.dst (.slice A' n n)) w') :
  wpList P ops Q (o :: rest) a w:=by
 obtain ⟨ht,⟨i,hi,hz,hsz,hb⟩,hzs⟩:=he
 refine wpList_make_full _ hgd l c t hop Bs e i z 1 ht hi hz hsz kl kc L C n hl hc hL hC (by rw [hb];exact hby) h63 hbase ?_
 intro w' h1 h2
 rw [hz1,Nat.mul_one,toList_madeCells_one] at h1
 exact h _ _ h1 ((Below.refl _ _).grown h2 hbase (fun k hk=>by cases hk))
end
theorem int_info:(Tryz.prog.info? 3).map (fun i=>(i.zero,i.size,i.bytes))=some (some (.int .i64 0),1,8):=by kernel_rfl
theorem el_number:Elem Tryz.prog 263 3 (.int .i64 0) 8:=⟨Tryz.underlying263,info_parts int_info,rfl⟩
section
variable {P:Program} {ops:Array Oper} {rest:List Oper} {o:Oper} {a:Act} {Q:Exit→Act→World→Prop}
theorem run_append_of_nil (w:World) (base:Nat) (t ty e:TypeId) (i:TypeInfo) (size:Nat) (ht:P.underlying t=some (.slice e)) (hi:P.info? e=some i)
  (v:Value) (n:Nat) (xs:List Value) (hown:w.ownsRow base e size v n xs) (c:Nat):(Builtin.append_ #[t,t] ty #[v,.slice none 0 c]).run P w=.ok v w:=by
 rcases hown.2 with ⟨rfl,rfl⟩ | ⟨g,cap,cur,rfl,_,_,hnc,_⟩
 ·simp [Builtin.append_,run_underlying ht,sizeOf,typeInfo,hi,Builtin.lenOf,Builtin.firstCells]
 ·simp [Builtin.append_,run_underlying ht,sizeOf,typeInfo,hi,Builtin.lenOf,Builtin.firstCells,hnc,storeCells]
theorem OwnS.form {w:World} {Bs:Nat} {e:TypeId} {v:Value} {n:Nat} {xs:List Value} (h:w.ownsRow Bs e 1 v n xs):∃ A c,v=.slice A n c∧OwnS w Bs e A n c xs:=by
 have h0:=h
 rcases h.2 with ⟨hv,hn⟩ | ⟨g,cap,cur,hv,_⟩
 ·subst hv;subst hn;exact ⟨none,0,rfl,h0⟩
 ·subst hv;exact ⟨_,_,rfl,h0⟩
theorem wp_appn {t e:TypeId} {z:Value} {bytes:Nat} (he:Elem P t e z bytes) (hgd:o.guard=none) (s x:Operand) (ho:o.op=.call { callee:=.builtin .append,args:=#[s,x],argTypes:=#[t,t] })
  (Bs:Nat) (A:Option Addr) (n c:Nat) (xs:List Value) (w:World) (A2:Option Addr) (m c2:Nat) (news:List Value) (hs:a.eval s=.slice A n c) (hown:OwnS w Bs e A n c xs)
  (hx:a.eval x=.slice A2 m c2) (hm:news.length=m) (hcell:Cells w A2 news) (h1:∀ u ∈ news,u.oneCell'=true) (h63:n+m≤maxLen) (hby:(n+m)*bytes≤140737488355328) (hbase:Bs≤w.heap.size)
  (h:∀ A' c' w',OwnS w' Bs e A' (n+m) c' (xs ++ news)→Below Bs w w'→wpList P ops Q rest (a.put o.dst (.slice A' (n+m) c')) w') :
  wpList P ops Q (o :: rest) a w:=by
 obtain ⟨ht,⟨i,hi,hz,hsz,hb⟩,hzs⟩:=he
 have hb0:∀ k,(Value.slice A n c).ownBlock=some k→Bs≤k:=by
  intro k hk
  rcases hown.2 with ⟨hv,_⟩ | ⟨g',cap',cur',hv,hg',_⟩
  ·rw [hv] at hk;simp [Value.ownBlock] at hk
  ·rw [hv] at hk;simp [Value.ownBlock] at hk;omega
 rcases A2 with _ | ad
 ·have hm0:m=0:=by
   rcases Nat.eq_zero_or_pos m with h0 | h0
   ·exact h0
   ·obtain ⟨b,off,hA,_⟩:=hcell (by omega);cases hA
  subst hm0
  have hn:news=[]:=List.eq_nil_of_length_eq_zero hm
  subst hn
  have hrun:=run_append_of_nil (P:=P) w Bs t o.type e i 1 ht hi (.slice A n c) n xs hown c2
  refine wpList_plain hgd fun K hK=>?_
  unfold Oper.wp execOp
  simp only [ho,resolve,invoke,builtin,Sem.run_bind,Sem.run_pure,Result.andThen_ok,List.map_toArray,List.map_cons,List.map_nil,hs,hx,hrun]
  exact hK _ _ (by have:=h A c w (by simpa using hown) (Below.refl _ _);simpa using this)
 ·refine wpList_append_own _ hgd s x t ho Bs e i z 1 bytes ht hi hz hsz hb hzs (by decide) _ n xs hs hown ad m c2 news hx (by omega) ?_ h1 h63 hby hbase ?_
  ·intro j u hj
   have hjl:j<news.length:=(List.getElem?_eq_some_iff.1 hj).1
   obtain ⟨b,off,hA,_,hc⟩:=hcell (by omega)
   injection hA with hA
   subst hA
   have:=hc j u hj
   unfold Addr.add
   split
   ·rename_i h0;subst h0;simpa using this
   ·simpa using this
  ·intro v' w' h2 h3 _
   obtain ⟨A',c',hv,hown'⟩:=OwnS.form h2
   subst hv
   exact h A' c' w' hown' ((Below.refl _ _).grown h3 hbase hb0)
theorem step_appn {K:Act→World→Prop} {E:Prop} {t e:TypeId} {z:Value} {bytes:Nat} (he:Elem P t e z bytes) (hgd:o.guard=none) (s x:Operand) (ho:o.op=.call { callee:=.builtin .append,args:=#[s,x],argTypes:=#[t,t] })
  (Bs:Nat) (A:Option Addr) (n c:Nat) (xs:List Value) (w:World) (ad:Addr) (m c2:Nat) (news:List Value) (hs:a.eval s=.slice A n c) (hown:OwnS w Bs e A n c xs)
  (hx:a.eval x=.slice (some ad) m c2) (hm:news.length=m) (hcell:Cells w (some ad) news) (h1:∀ u ∈ news,u.oneCell'=true) (h63:n+m≤maxLen) (hby:(n+m)*bytes≤140737488355328) (hbase:Bs≤w.heap.size)
  (hK:∀ A' c' w',OwnS w' Bs e A' (n+m) c' (xs ++ news)→Below Bs w w'→K (a.put o.dst (.slice A' (n+m) c')) w') :
  if Region.wanted o (yielded ops a.tmps)=true then Oper.wp P o a w K Q else E:=by
 obtain ⟨ht,⟨i,hi,hz,hsz,hb⟩,hzs⟩:=he
 have hw:Region.wanted o (yielded ops a.tmps)=true:=by simp [Region.wanted,hgd]
 rw [if_pos hw]
 have hb0:∀ k,(Value.slice A n c).ownBlock=some k→Bs≤k:=by
  intro k hk
  rcases hown.2 with ⟨hv,_⟩ | ⟨g',cap',cur',hv,hg',_⟩
  ·rw [hv] at hk;simp [Value.ownBlock] at hk
  ·rw [hv] at hk;simp [Value.ownBlock] at hk;omega
 have hc:∀ j u,news[j]? = some u→w.cell? (ad.add j)=some u:=by
  intro j u hj
  have hjl:j<news.length:=(List.getElem?_eq_some_iff.1 hj).1
  obtain ⟨b,off,hA,_,hc⟩:=hcell (by omega)
  injection hA with hA
  subst hA
  have:=hc j u hj
  unfold Addr.add
  split
  ·rename_i h0;subst h0;simpa using this
  ·simpa using this
 obtain ⟨v',w',hrun,r1,r2,_⟩:=run_append_own (P:=P) w Bs t o.type e i z 1 bytes ht hi hz hsz hb hzs (by decide) (.slice A n c) n xs hown ad m c2 news (by omega) hc h1 h63 hby hbase
 obtain ⟨A',c',hv,hown'⟩:=OwnS.form r1
 subst hv
 unfold Oper.wp
 simp [execOp,ho,resolve,invoke,builtin,hs,hx,hrun,Result.andThen]
 exact hK A' c' w' hown' ((Below.refl _ _).grown r2 hbase hb0)
theorem OwnS.lit (w:World) (e:TypeId) (cs:Array Value) (Bs n:Nat) (hB:Bs≤w.heap.size) (hs:cs.size=n) (hm:n≤maxLen):OwnS (w.alloc (.cells cs e)) Bs e (some ⟨w.heap.size,0,none⟩) n n cs.toList :=
 World.ownsRow_lit w cs n hB hm (by omega)
end
end Go.Proofs.YtjcekdiocliddaaGreatDoor
namespace Go.Proofs.YtjcekdiocliddaaGreatDoor
open Go.RowKit Num
set_option linter.unusedVariables false
attribute [local go_sem] B_size B_get B_toList B_mk B_extract B_append
attribute [local go_sem high] run_max2
theorem run_make_rowN {P:Program} (t e:TypeId) (i:TypeInfo) (z:Value) (ht:P.underlying t=some (.slice e)) (hi:P.info? e=some i) (hz:i.zero=some z)
  (kl kc:IntKind) (n c:Nat) (hnc:n≤c) (hbytes:i.bytes*c≤281474976710656) (h63:c≤9223372036854775807) (w:World) :
  (Instr.makeSlice t (.int kl (n:Int)) (.int kc (c:Int))).run P w=.ok (.slice (some ⟨w.heap.size,0,none⟩) n c) (w.alloc (.cells (madeCells z.cells (c*i.size)) e)):=by
 have hb:(i.bytes:Int)*(c:Int)≤281474976710656:=by
  have h:((i.bytes*c:Nat):Int)≤281474976710656:=by omega
  rwa [Int.natCast_mul] at h
 have hr:=run_make (P:=P) w t e i z ht hi hz kl kc n c (by omega) (by omega) hb (by omega)
 simp only [Int.toNat_natCast] at hr
 exact hr
theorem byte_info:(Tryz.prog.info? 5).map (fun i=>(i.zero,i.size,i.bytes))=some (some (.int .u8 0),1,1):=by kernel_rfl
theorem el_byte:Elem Tryz.prog 241 5 (.int .u8 0) 1:=⟨Tryz.underlying241,info_parts byte_info,rfl⟩
def zeros (n:Nat):Array Value:=madeCells #[.int .u8 0] n
theorem make_bytes (n:Nat) (hn:n≤1000000) (w:World) :
  (Instr.makeSlice 241 (.int .u16 (n:Int)) (.int .u16 (n:Int))).run Tryz.prog w=.ok (.slice (some ⟨w.heap.size,0,none⟩) n n) (w.alloc (.cells (zeros n) 5)):=by
 obtain ⟨i,hi,hz,hs,hb⟩:=info_parts byte_info
 have:=run_make_rowN (P:=Tryz.prog) 241 5 i (.int .u8 0) Tryz.underlying241 hi hz .u16 .u16 n n (Nat.le_refl _) (by rw [hb];omega) (by omega) w
 rw [hs,Nat.mul_one] at this
 exact this
def bytes (l:List UInt8):List Value:=l.map fun b=>Value.int .u8 (b.toNat:Int)
theorem bytes_length (l:List UInt8):(bytes l).length=l.length:=by simp [bytes]
theorem zeros_list (n:Nat):(zeros n).toList=bytes (List.replicate n 0):=by
 unfold zeros;rw [toList_madeCells_one];simp [bytes]
theorem zeros_size (n:Nat):(zeros n).size=n:=by
 have:=congrArg List.length (zeros_list n)
 rw [bytes_length,List.length_replicate,Array.length_toList] at this;exact this
theorem OwnS.zeros (w:World) (n Bs:Nat) (hB:Bs≤w.heap.size) (hn:n≤1000000):OwnS (w.alloc (.cells (zeros n) 5)) Bs 5 (some ⟨w.heap.size,0,none⟩) n n (bytes (List.replicate n 0)):=by
 have:=OwnS.lit w 5 (Go.Proofs.YtjcekdiocliddaaGreatDoor.zeros n) Bs n hB (zeros_size n) (by unfold maxLen;omega)
 rw [zeros_list] at this
 exact this
theorem OwnS.setOther {w:World} {Bs:Nat} {e:TypeId} {g g' n c:Nat} {xs:List Value} (h:OwnS w Bs e (some ⟨g,0,none⟩) n c xs) (hne:g≠g') (j:Nat) (u:Value):OwnS (w.setCell ⟨g',j,none⟩ u) Bs e (some ⟨g,0,none⟩) n c xs:=by
 refine ⟨h.1,?_⟩
 rcases h.2 with h2 | ⟨g2,cap,cur,hv,hg,hh,r⟩
 ·exact .inl h2
 ·have hv0:=hv
  injection hv with hA _ _
  injection hA with hA
  injection hA with hA _ _
  subst hA
  exact .inr ⟨g,cap,cur,hv0,hg,by rw [Below.heap_setCell _ _ _ _ hne];exact hh,r⟩
theorem conv_bytes (g n c Bs:Nat) (l:List UInt8) (w:World) (hl:l.length=n) (h:OwnS w Bs 5 (some ⟨g,0,none⟩) n c (bytes l)) :
  (convert 241 9 (.slice (some ⟨g,0,none⟩) n c)).run Tryz.prog w=.ok (.string (B l)) w:=by
 have hc:∀ i,i<n→w.cell? ⟨g,0+i,none⟩=some (.int .u8 ((l.map fun b=>(b.toNat:Int)).getD i 0)):=by
  intro i hi
  have:=World.ownsRow.cellAt h i (by omega)
  rw [Nat.zero_add,this]
  simp [bytes,List.getElem?_eq_getElem (show i<l.length by omega)]
 have:=run_convert_bytes_arg (P:=Tryz.prog) (w:=w) 241 5 Tryz.underlying241 Tryz.underlying5 g 0 n c (l.map fun b=>(b.toNat:Int)) (by simpa using hl) hc 9 Tryz.underlying9
 have hmap:∀ l:List UInt8,(l.map fun b=>(b.toNat:Int)).map (fun n=>UInt8.ofNat n.toNat)=l:=by
  intro l
  rw [List.map_map]
  conv=>rhs;rw [← List.map_id l]
  apply List.map_congr_left
  intro x _
  simp
 have hs:strOfNums (l.map fun b=>(b.toNat:Int))=B l:=by
  unfold strOfNums B
  rw [hmap]
 rw [this,hs]
theorem wp_apps {ops:Array Oper} {rest:List Oper} {o:Oper} {a:Act} {Q:Exit→Act→World→Prop} (hgd:o.guard=none) (s x:Operand) (ho:o.op=.call { callee:=.builtin .append,args:=#[s,x],argTypes:=#[241,9] })
  (Bs:Nat) (A:Option Addr) (n c:Nat) (xs:List UInt8) (w:World) (l:List UInt8) (hs:a.eval s=.slice A n c) (hown:OwnS w Bs 5 A n c (bytes xs))
  (hx:a.eval x=.string (B l)) (h63:n+l.length≤140737488355328) (hbase:Bs≤w.heap.size)
  (h:∀ A' c' w',OwnS w' Bs 5 A' (n+l.length) c' (bytes (xs ++ l))→Below Bs w w'→wpList Tryz.prog ops Q rest (a.put o.dst (.slice A' (n+l.length) c')) w') :
  wpList Tryz.prog ops Q (o :: rest) a w:=by
 obtain ⟨i,hi,hz,hsz,hb⟩:=info_parts byte_info
 have hb0:∀ k,(Value.slice A n c).ownBlock=some k→Bs≤k:=by
  intro k hk
  rcases hown.2 with ⟨hv,_⟩ | ⟨g',cap',cur',hv,hg',_⟩
  ·rw [hv] at hk;simp [Value.ownBlock] at hk
  ·rw [hv] at hk;simp [Value.ownBlock] at hk;omega
 refine Lib.wpList_append_own_string w hgd s x 241 9 ho Bs 5 i Tryz.underlying241 Tryz.underlying9 hi hz hsz hb (.slice A n c) n (bytes xs) hs hown (B l) hx (by unfold maxLen;rw [B_size];omega) (by rw [B_size];omega) hbase ?_
 intro v' w' h2 h3 _
 rw [B_size] at h2
 obtain ⟨A',c',hv,hown'⟩:=OwnS.form h2
 subst hv
 have e:bytes xs ++ Lib.strCells (B l)=bytes (xs ++ l):=by simp [Lib.strCells,bytes,B]
 rw [e] at hown'
 exact h A' c' w' hown' ((Below.refl _ _).grown h3 hbase hb0)
end Go.Proofs.YtjcekdiocliddaaGreatDoor

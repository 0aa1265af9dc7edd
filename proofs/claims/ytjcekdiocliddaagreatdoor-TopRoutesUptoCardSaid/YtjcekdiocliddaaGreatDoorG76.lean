/- sets.Has, Members; fleet.Able, Dims; loads. (Printed by wip/tk/mkTmJ.py.) -/
import Derived.Test.YtjcekdiocliddaaGreatDoorG72
import Derived.OrdersHeld
import Derived.Laws.Bits64b
import Derived.Test.YtjcekdiocliddaaGreatDoorG75
namespace Go.Proofs.YtjcekdiocliddaaGreatDoor
open Lib (hid)
open Go.RowKit Num Txt Pf Tk
set_option maxHeartbeats 32000000
set_option maxRecDepth 100000
set_option linter.unusedVariables false
attribute [local go_sem] BS Bg Bt Bm Be Ba
def Aa (s:Nat) (i:Int):Bool:=decide (0<=i/\i<=62/\(s:Int) / 2 ^ i.toNat % 2=1)
theorem mand_one (E:Int) (h0:0<=E) (h1:E<=9223372036854775807):bits BinOp.and IntKind.i64 E 1=E % 2:=by
 obtain ⟨a,rfl⟩:∃ a:Nat,E=a:=⟨E.toNat,by omega⟩
 have h3:(BitVec.ofInt 64 (a:Int)).toNat=a:=by
  rw [BitVec.ofInt_natCast,BitVec.toNat_ofNat];exact Nat.mod_eq_of_lt (by omega)
 have h4:(BitVec.ofInt 64 (1:Int)).toNat=1:=by decide
 show IntKind.i64.wrap ((BitVec.ofInt 64 (a:Int) &&& BitVec.ofInt 64 (1:Int)).toNat:Int)=_
 rw [BitVec.toNat_and,h3,h4,Nat.and_one_is_mod];have:a % 2<2:=Nat.mod_lt _ (by omega);unfold IntKind.wrap;simp [IntKind.signed,IntKind.bits]
 omega
theorem mA (s:Nat) (i:Int) (w:World) (hs:s<1048576) :
  Calls Tryz.prog 77 #[.int .i64 s,.int .i64 i] w fun e w'=>e=.returned (.bool (Aa s i))/\w'=w:=by
 by_cases h0:0<=i
 ·by_cases h1:i<=62
  ·have hd0:0<=(s:Int) / 2 ^ i.toNat:=Int.ediv_nonneg (by omega) (Int.pow_nonneg (by omega))
   have hd1:(s:Int) / 2 ^ i.toNat<=s:=Int.ediv_le_self _ (by omega)
   have HV:=hid (show Aa s i=(bits BinOp.and IntKind.i64 ((s:Int) / 2 ^ i.toNat) 1 == 1) by
    rw [mand_one _ hd0 (by omega)];unfold Aa;by_cases e:(s:Int) / 2 ^ i.toNat % 2=1
    ·rw [e,decide_eq_true ⟨h0,h1,rfl⟩];rfl
    ·rw [decide_eq_false (fun h=>e h.2.2)];simp [e])
   clear hd0 hd1;go_enter Tryz.func77,Tryz.ntmps77;go_wp2_with fail;go_ret;exact ⟨rb HV.out.symm,rfl⟩
  ·have HV:=hid (show Aa s i=false by unfold Aa;rw [decide_eq_false (fun h=>h1 h.2.1)])
   go_enter Tryz.func77,Tryz.ntmps77;go_wp2_with fail;go_ret;exact ⟨rb HV.out.symm,rfl⟩
 ·have HV:=hid (show Aa s i=false by unfold Aa;rw [decide_eq_false (fun h=>h0 h.1)])
  go_enter Tryz.func77,Tryz.ntmps77;go_wp2_with fail;go_ret;exact ⟨rb HV.out.symm,rfl⟩
def MK (s k:Nat):List Int:=((List.range k).filter fun i:Nat=>Aa s (i:Int)).map fun i:Nat=>(i:Int)
def MS (s:Nat):List Int:=MK s 63
theorem memK_yes {s k:Nat} (h:Aa s (k:Int)=true):MK s (k+1)=MK s k ++ [(k:Int)]:=by
 unfold MK;rw [List.range_succ,List.filter_append,List.map_append];simp [h]
theorem memK_no {s k:Nat} (h:Aa s (k:Int)=false):MK s (k+1)=MK s k:=by
 unfold MK;rw [List.range_succ,List.filter_append,List.map_append];simp [h]
theorem mK (s:Nat):∀ k,(MK s k).length<=k
 |0=>by simp [MK]
 |k+1=>by
  have:=mK s k
  cases h:Aa s (k:Int) with
  |true=>rw [memK_yes h,List.length_append];simp;omega
  |false=>rw [memK_no h];omega
theorem mS {s:Nat} {i:Int}:i ∈ MS s↔Aa s i=true:=by
 unfold MS MK;rw [List.mem_map];constructor
 ·rintro ⟨k,hk,rfl⟩
  exact (List.mem_filter.1 hk).2
 ·intro h
  have h2:=h;unfold Aa at h2;have h3:=of_decide_eq_true h2;refine ⟨i.toNat,List.mem_filter.2 ⟨List.mem_range.2 (by omega),?_⟩,by omega⟩;rw [show ((i.toNat:Nat):Int)=i by omega];exact h
abbrev Ao (w:World) (Bs:Nat) (A:Option Addr) (c:Nat) (l:List Int):Prop:=OR w Bs 3 1 A l.length c (ints l)
section
variable {P:Program} {ops:Array Oper} {rest:List Oper} {o:Oper} {a:Act} {Q:Exit->Act->World->Prop}
theorem wp_intk {t e:TypeId} {z:Value} {sz bytes:Nat} (he:ER P t e z sz bytes) (hgd:o.guard=none) (s x:Operand) (ho:o.op=.call { callee:=.builtin .append,args:=#[s,x],argTypes:=#[t,t] }) (het:e=3) (hsz:sz=1) (hby:bytes=8)
  (Bs:Nat) (A:Option Addr) (n c:Nat) (l:List Int) (hn:n=l.length) (w:World) (k:Int) (hs:a.eval s=.slice A n c) (hown:Ao w Bs A c l)
  (hx:a.eval x=.slice (some ⟨w.heap.size,0,none⟩) 1 1) (hl:l.length<=1099511627776) (hbase:Bs<=w.heap.size)
  (h:∀ A' c' w',Ao w' Bs A' c' (l ++ [k])->Below Bs w w'->KA A w w'->wpList P ops Q rest (a.put o.dst (.slice A' (n+1) c')) w') :
  wpList P ops Q (o :: rest) a (w.alloc (.cells #[.int .i64 k] e)):=by
 subst het hsz hby hn;refine wk he hgd s x ho Bs A l.length c (ints l) w #[.int .i64 k] hs hown hx rfl (by intro u hu;simp at hu;subst hu;rfl) (by unfold maxLen;omega) (by omega) hbase ?_;intro A' c' w' h1 h2 h3;have hlen:=sL l k;have e2:ints (l ++ [k])=ints l ++ [.int .i64 k]:=by unfold ints;rw [List.map_append];rfl
 exact h A' c' w' (by show OR _ _ _ _ _ _ _ _;rw [hlen,e2];exact h1) h2 h3
end
def MemE (s:Nat) (w:World) (e:Ending) (w':World):Prop:=∃ (A:Option Addr) (c:Nat),e=.returned (.slice A (MS s).length c)/\Ao w' w.heap.size A c (MS s)/\Below w.heap.size w w'
theorem ma (s:Nat) (w:World) (hs:s<1048576):Calls Tryz.prog 32 #[.int .i64 s] w (MemE s w):=by
 go_enter Tryz.func32,Tryz.ntmps32;(try simp only [Bm]);go_wp2_with fail;go_loopw [3,4,5] (fun o _ j wr=>∃ (k:Nat) (A:Option Addr) (c:Nat),k<=63/\j=.int .i64 k/\o=.slice A (MK s k).length c/\Ao wr w.heap.size A c (MK s k)/\Below w.heap.size w wr) (fun _ _ j _=>63 - (intOf j).toNat)
 case atStart=>exact ⟨0,none,0,Nat.zero_le _,rfl,rfl,OR.nil _ _ _ _,Below.refl _ _⟩
 case round =>
  obtain ⟨k,A,c,hk,rfl,rfl,hown,hbel⟩:=hrel;have HOW:=hid hown;have HB:=hid hbel;clear hown hbel;by_cases hlt:k<63
  ·have hlt1:(k:Int)<63:=by omega
   have hml:=mK s k;go_wp2_with fail;refine (mA s (k:Int) wr hs).mono ?_;rintro e w1 ⟨rfl,hw⟩;obtain rfl:=hw.symm
   cases hh:Aa s (k:Int) with
   |true =>
    have HE:=hid (memK_yes hh);obtain ⟨l,hl⟩:∃ l,l=MK s k:=⟨_,rfl⟩
    rw [<- hl] at HE HOW hml;rw [<- hl];clear hh hl;go_wp2_with (at_builtin;refine wp_intk el_pint rfl _ _ rfl rfl rfl rfl w.heap.size A l.length c l rfl wr (k:Int) rfl HOW.out rfl (by omega) HB.out.size ?_;intro A3 c3 w3 hown3 hb3 hkp3)
    go_roundw
    case rel=>exact ⟨k+1,A3,c3,by omega,by go_num,by rw [HE.out,sL],by rw [HE.out];exact hown3,HB.out.trans hb3⟩
    case measure=>simp [intOf];omega
   |false =>
    have HE:=hid (memK_no hh);clear hh;go_wp2_with fail;go_roundw
    case rel=>exact ⟨k+1,A,c,by omega,by go_num,by rw [HE.out],by rw [HE.out];exact HOW.out,HB.out⟩
    case measure=>simp [intOf];omega
  ·have hlt1:¬ (k:Int)<63:=by omega
   have hk63:k=63:=by omega
   subst hk63;go_wp2_with fail;go_ret;exact ⟨A,c,rfl,HOW.out,HB.out⟩
def AB (t:TV) (s:Int):Bool:=decide (0<=t.skills) && decide (0<=s) && (bits BinOp.andNot IntKind.i64 s t.skills == 0)
theorem fA (t:Ty) (s:Int) (w:World) (ht:0<=t.t.skills) (hs:0<=s):Calls Tryz.prog 63 #[.agg t.cells.toArray,.int .i64 s] w fun e w'=>e=.returned (.bool (AB t.t s))/\Below w.heap.size w w':=by
 obtain ⟨n4,p4⟩:=Na w (.cells t.cells.toArray 81);have HN4:=hid n4;have y5:=CX p4 5 (.int .i64 t.t.skills) rfl;have HV:=hid (show AB t.t s=(bits BinOp.andNot IntKind.i64 s t.t.skills == 0) by unfold AB;rw [decide_eq_true ht,decide_eq_true hs];rfl);clear n4 p4;go_enter Tryz.func63,Tryz.ntmps63;(try simp only [Bm]);go_upto_region 1 with fail
 generalize w.alloc (.cells t.cells.toArray 81)=wa at *;go_wp2_with fail;go_ret;exact ⟨rb HV.out.symm,HN4.out⟩
theorem fdims_any (l:List Ty) (A:Option Addr) (c:Nat) (w:World) (hc:Cs w A (l.flatMap Ty.cells)) (hn:l.length<=c/\c<=maxLen) (hl:l.length<=2) (hd:∀ t ∈ l,t.t.cap.length<=3) :
  Calls Tryz.prog 120 #[.slice A l.length c] w fun e w'=>e=.returned (.int .i64 (dN l))/\w'=w:=by
 unfold maxLen at hn;by_cases h0:l.length=0
 ·have HD:=hid (dimsN_0 h0)
  have hb:=iB (show (l.length:Int)=0 by omega);clear hc h0;go_enter Tryz.func120,Tryz.ntmps120;go_wp2_with fail;go_ret;exact ⟨ri (by rw [HD.out];rfl),rfl⟩
 ·have h1:0<l.length:=by omega
  have HD:=hid (dimsN_1 h1);have hb:=ib (show ¬ (l.length:Int)=0 by omega);obtain ⟨g1,o1,hA1,hg1,hx1⟩:=eP Ty.cells_len (by decide) hc h1;have x4:=hx1 0 h1 4 _ rfl;have hd0:=hd _ (List.getElem_mem h1);subst hA1;rw [Nat.zero_mul,Nat.add_zero] at x4;generalize l[0]=t at *;clear hx1 h0 hc hd;go_enter Tryz.func120,Tryz.ntmps120;go_wp2_with fail;go_ret;exact ⟨ri (by rw [HD.out]),rfl⟩
def Cw (f:Int->Int->Int) (a b:List Int) (k:Nat):List Int:=(List.range a.length).map fun i=>if i<k then f (a.getD i 0) (b.getD i 0) else 0
theorem OL (f:Int->Int->Int) (a b:List Int) (k:Nat):(Cw f a b k).length=a.length:=by simp [Cw]
theorem opL_0 (f:Int->Int->Int) (a b:List Int):Cw f a b 0=List.replicate a.length 0:=by
 unfold Cw;apply List.ext_getElem
 ·simp
 ·intro i h1 h2
  simp
theorem opL_get (f:Int->Int->Int) (a b:List Int) (k i:Nat) (h:i<(Cw f a b k).length):(Cw f a b k)[i]=if i<k then f (a.getD i 0) (b.getD i 0) else 0:=by simp [Cw]
theorem opL_set (f:Int->Int->Int) (a b:List Int) (k:Nat):(Cw f a b k).set k (f (a.getD k 0) (b.getD k 0))=Cw f a b (k+1):=by
 apply List.ext_getElem
 ·simp [Cw]
 ·intro i h1 h2
  rw [List.getElem_set,opL_get,opL_get];by_cases h:k=i
  ·subst h;rw [if_pos rfl,if_pos (by omega)]
  ·rw [if_neg h]
   by_cases h3:i<k
   ·rw [if_pos h3,if_pos (by omega)]
   ·rw [if_neg h3,if_neg (by omega)]
def aD (a b:List Int):List Int:=Cw (·+ ·) a b a.length
def Cy (a b:List Int):List Int:=Cw (·- ·) a b a.length
def Bnd (K:Int) (l:List Int):Prop:=∀ n ∈ l,-K<=n/\n<=K
theorem Bnd.mono {K K':Int} {l:List Int} (h:Bnd K l) (hk:K<=K'):Bnd K' l:=fun n hn=>by have:=h n hn;omega
theorem Bnd.at_ {K:Int} {l:List Int} (h:Bnd K l) (i:Nat) (hi:i<l.length):-K<=l.getD i 0/\l.getD i 0<=K:=by
 rw [getD_at l 0 hi];exact h _ (List.getElem_mem hi)
theorem addL_len (a b:List Int):(aD a b).length=a.length:=OL ..
theorem subL_len (a b:List Int):(Cy a b).length=a.length:=OL ..
theorem addL_bnd {a b:List Int} {K J:Int} (ha:Bnd K a) (hb:Bnd J b) (hl:a.length=b.length):Bnd (K+J) (aD a b):=by
 intro n hn;unfold aD Cw at hn;obtain ⟨i,hi,rfl⟩:=List.mem_map.1 hn;have hi:=List.mem_range.1 hi;rw [if_pos hi];have:=ha.at_ i hi;have:=hb.at_ i (by omega);dsimp only
 omega
theorem subL_bnd {a b:List Int} {K J:Int} (ha:Bnd K a) (hb:Bnd J b) (hl:a.length=b.length):Bnd (K+J) (Cy a b):=by
 intro n hn;unfold Cy Cw at hn;obtain ⟨i,hi,rfl⟩:=List.mem_map.1 hn;have hi:=List.mem_range.1 hi;rw [if_pos hi];have:=ha.at_ i hi;have:=hb.at_ i (by omega);dsimp only
 omega
theorem Mi (n:Nat) (hn:n<=1000000) (w:World) :
  (Instr.makeSlice 46 (.int .i64 (n:Int)) (.int .i64 (n:Int))).run Tryz.prog w=.ok (.slice (some ⟨w.heap.size,0,none⟩) n n) (w.alloc (.cells (madeCells #[.int .i64 0] n) 3)):=by
 obtain ⟨i,hi,hz,hs,hb⟩:=info_parts pint_info;have:=rN (P:=Tryz.prog) 46 3 i (.int .i64 0) Tryz.underlying46 hi hz .i64 .i64 n n (Nat.le_refl _) (by rw [hb];omega) (by omega) w;rw [hs,Nat.mul_one] at this;exact this
theorem mI (n:Nat):madeCells #[.int .i64 0] n=(ints (List.replicate n 0)).toArray:=by
 apply Array.ext'
 rw [List.toList_toArray,toList_madeCells_one];simp [ints]
theorem ints_set (l:List Int) (k:Nat) (v:Int):(ints l).toArray.setIfInBounds k (.int .i64 v)=(ints (l.set k v)).toArray:=by
 simp [ints,List.map_set]
theorem oM {w:World} {Bs g n:Nat} {l:List Int} (h:w.heap[g]? = some (.cells (ints l).toArray 3)) (hg:Bs<=g) (hn:l.length=n) (hm:n<=maxLen):OR w Bs 3 1 (some ⟨g,0,none⟩) n n (ints l):=by
 refine ⟨by rw [il,hn,Nat.mul_one],.inr ⟨g,n,(ints l).toArray,rfl,hg,h,Nat.le_refl _,hm,?_,?_⟩⟩
 ·rw [List.size_toArray,il,hn,Nat.mul_one]
 ·rw [Nat.mul_one];exact List.take_of_length_le (by rw [il,hn];exact Nat.le_refl _)
theorem lplus_any (a b:Int) (w:World) (ha:-1000000<=a/\a<=1000000) (hb:-1000000<=b/\b<=1000000):Calls Tryz.prog 136 #[.int .i64 a,.int .i64 b] w fun e w'=>e=.returned (.int .i64 (a+b))/\w'=w:=by
 go_enter Tryz.func136,Tryz.ntmps136;go_wp2_with fail;go_ret;exact ⟨rfl,rfl⟩
theorem lminus_any (a b:Int) (w:World) (ha:-1000000<=a/\a<=1000000) (hb:-1000000<=b/\b<=1000000):Calls Tryz.prog 162 #[.int .i64 a,.int .i64 b] w fun e w'=>e=.returned (.int .i64 (a - b))/\w'=w:=by
 go_enter Tryz.func162,Tryz.ntmps162;go_wp2_with fail;go_ret;exact ⟨rfl,rfl⟩
theorem ladd_anyC (a b:List Int) (A C:Option Addr) (ca cc:Nat) (w:World) (ha:Cs w A (ints a)) (hb:Cs w C (ints b)) (hac:a.length<=ca/\ca<=maxLen) (hbc:b.length<=cc/\cc<=maxLen) (hl:a.length=b.length) (h3:a.length<=3) (hba:Bnd 1000000 a) (hbb:Bnd 1000000 b) :
  Calls Tryz.prog 135 #[.slice A a.length ca,.slice C b.length cc,.func (Fn.func 136) #[] #[]] w fun e w'=>∃ (A':Option Addr) (c':Nat),e=.returned (.tuple #[.slice A' (aD a b).length c',.int .i64 0])/\Ao w' w.heap.size A' c' (aD a b)/\Below w.heap.size w w':=by
 have HA:=hid ha;have HC:=hid hb;have HBA:=hid hba;have HBB:=hid hbb;have HL:=hid hl;unfold maxLen at hac hbc;have hlb:((a.length:Int) != (b.length:Int))=false:=by rw [hl];simp
 have hmk:=Mi a.length (by omega);obtain ⟨n4,p4⟩:=Na w (.cells (madeCells #[.int .i64 0] a.length) 3);have HN4:=hid n4;have HP4:=hid (show (w.alloc (.cells (madeCells #[.int .i64 0] a.length) 3)).heap[w.heap.size]? = some (.cells (ints (Cw (·+ ·) a b 0)).toArray 3) by rw [p4,mI,<- opL_0 (·+ ·) a b]);have HE:=hid (show aD a b=Cw (·+ ·) a b a.length from rfl)
 have hlen:=OL (·+ ·) a b a.length;have HLEN:=hid hlen;clear ha hb n4 p4 hl hba hbb hlen;go_enter Tryz.func135,Tryz.ntmps135;(try simp only [Bm]);go_upto_region 4 with fail;generalize w.alloc (.cells (madeCells #[.int .i64 0] a.length) 3)=wa at *;obtain ⟨g4,hg4⟩:∃ g4,g4=w.heap.size:=⟨_,rfl⟩
 have HG4:=hid (show w.heap.size<=g4 by omega);rw [<- hg4] at HP4;rw [<- hg4];clear hg4 hmk;go_wp2_with fail;go_loopw [9,20] (fun _ j wr=>∃ k:Nat,k<=a.length/\j=.int .i64 k/\wr.heap[g4]? = some (.cells (ints (Cw (·+ ·) a b k)).toArray 3)/\Below w.heap.size w wr) (fun _ j _=>a.length - (intOf j).toNat)
 case atStart=>exact ⟨0,Nat.zero_le _,rfl,HP4.out,HN4.out⟩
 case round =>
  clear HP4 HN4;obtain ⟨k,hk,rfl,hr4,hbel⟩:=hrel;have HR4:=hid hr4;have HB:=hid hbel;clear hr4 hbel;by_cases hlt:k<a.length
  ·have hlt1:(k:Int)<(a.length:Int):=by omega
   have hlt2:k<b.length:=by have:=HL.out;omega
   have hlt3:(k:Int)<(b.length:Int):=by omega
   obtain ⟨ga,oa,hA1,hga,hx1⟩:=HA.out (by rw [il];omega);obtain ⟨gb,ob,hC1,hgb,hy1⟩:=HC.out (by rw [il];omega);have hxb:=HBA.out.at_ k hlt;have hyb:=HBB.out.at_ k hlt2;have x0:=(HB.out.cell (p:=⟨ga,oa+k,none⟩) hga).trans (hx1 k _ (iK a k hlt));have y0:=(HB.out.cell (p:=⟨gb,ob+k,none⟩) hgb).trans (hy1 k _ (iK b k hlt2));have HSET:=hid (opL_set (·+ ·) a b k)
   rw [<- getD_at a 0 hlt] at x0;rw [<- getD_at b 0 hlt2] at y0;have HNA:=hid (show ga≠g4 from Nat.ne_of_lt (Nat.lt_of_lt_of_le hga HG4.out));have HNB:=hid (show gb≠g4 from Nat.ne_of_lt (Nat.lt_of_lt_of_le hgb HG4.out))
   have HKS:=hid (show ∀ (w':World) (b' o':Nat) (v:Value) {u:Value},w'.cell? ⟨b',o',none⟩=some u->b'≠g4->(w'.setCell ⟨g4,k,none⟩ v).cell? ⟨b',o',none⟩=some u from fun w' b' o' v u h hne=>by
    rw [<- h];exact World.cell?_of_block (w:=w') (w':=w'.setCell ⟨g4,k,none⟩ v) (a:=⟨b',o',none⟩) (Below.heap_setCell _ _ _ _ hne))
   obtain ⟨x,hx⟩:∃ x,x=a.getD k 0:=⟨_,rfl⟩
   obtain ⟨y,hy⟩:∃ y,y=b.getD k 0:=⟨_,rfl⟩
   rw [<- hx] at x0 hxb HSET;rw [<- hy] at y0 hyb HSET;rw [hA1,hC1];clear hx1 hy1 hA1 hC1 hx hy;have HRD:=hid (show wr.drew.heap[g4]? = some (.cells (ints (Cw (·+ ·) a b k)).toArray 3) from HR4.out);have HBD:=hid (show Below w.heap.size w wr.drew from HB.out.drew);have f0:=fz HRD.out k
   have f1:∃ u,wr.drew.cell? ⟨g4,k,none⟩=some u:=⟨_,CX HRD.out k _ (by rw [List.getElem?_toArray];exact iK _ k (by rw [OL];exact hlt))⟩
   obtain ⟨u0,f1⟩:=f1;go_upto_region 7 with fail;have hS0:(fun w'=>w'.cell? ⟨ga,oa+k,none⟩=some (.int .i64 x)/\w'.cell? ⟨gb,ob+k,none⟩=some (.int .i64 y)) wr.drew:=⟨x0,y0⟩
   refine wp_region_held_drew (S:=fun w'=>w'.cell? ⟨ga,oa+k,none⟩=some (.int .i64 x)/\w'.cell? ⟨gb,ob+k,none⟩=some (.int .i64 y)) (by kernel_rfl) hS0 (fun _=>?_);refine td 0 ?_;refine td 1 ?_;refine td 2 ?_;refine td 3 ?_;refine td 4 ?_;refine td 5 ?_;(try simp only [Act.put,P1,pu,P3]);refine Tv 6 (v:=?_) ?_ ?_;rotate_left
   ·(intro w hSw;obtain ⟨q0,q1⟩:=hSw;go_simp;(try with_reducible rfl))
   refine td 7 ?_;refine td 8 ?_;refine td 9 ?_;(try simp only [Act.put,P1,pu,P3]);refine Tv 10 (v:=?_) ?_ ?_;rotate_left
   ·(intro w hSw;obtain ⟨q0,q1⟩:=hSw;go_simp;(try with_reducible rfl))
   (try simp only [Act.put,P1,pu,P3]);refine one 11 (fun K hK=>?_);go_simp;refine (lplus_any x y _ hxb hyb).mono ?_;rintro e w6 ⟨rfl,rfl⟩;refine hK.out _ _ (by assumption) (fun _=>?_);clear hK K;refine td 12 ?_;(try simp only [Act.put,P1,pu,P3]);refine one 13 (fun K hK=>?_);go_simp;refine hK.out _ _ (⟨HKS.out _ _ _ _ x0 HNA.out,HKS.out _ _ _ _ y0 HNB.out⟩) (fun _=>?_);clear hK K
   (try simp only [Act.put]);refine wpAnyH_done (by kernel_rfl) ?_ _;have HS:=hid (show (wr.drew.setCell ⟨g4,k,none⟩ (.int .i64 (x+y))).heap[g4]? = some (.cells (ints (Cw (·+ ·) a b (k+1))).toArray 3) by rw [Hp HRD.out,ints_set,HSET.out]);have HBS:=hid (show Below w.heap.size w (wr.drew.setCell ⟨g4,k,none⟩ (.int .i64 (x+y))) from HBD.out.setCell (p:=⟨g4,k,none⟩) HG4.out _)
   go_wp2_with fail;go_roundw
   case rel=>exact ⟨k+1,by omega,by go_num,HS.out,HBS.out⟩
   case measure=>simp [intOf];omega
  ·have hlt1:¬ (k:Int)<(a.length:Int):=by omega
   have hke:k=a.length:=by omega
   subst hke;go_wp2_with fail;go_ret2;refine ⟨some ⟨g4,0,none⟩,a.length,by rw [HE.out,HLEN.out];rfl,?_,HB.out⟩;rw [HE.out];show OR _ _ _ _ _ (Cw (·+ ·) a b a.length).length _ _
   rw [HLEN.out];exact oM HR4.out HG4.out HLEN.out (by unfold maxLen;omega)
theorem Cf (a b:List Int) (A C:Option Addr) (ca cc:Nat) (w:World) (ha:Cs w A (ints a)) (hb:Cs w C (ints b)) (hac:a.length<=ca/\ca<=maxLen) (hbc:b.length<=cc/\cc<=maxLen) (hl:a.length=b.length) (h3:a.length<=3) (hba:Bnd 1000000 a) (hbb:Bnd 1000000 b) :
  Calls Tryz.prog 91 #[.slice A a.length ca,.slice C b.length cc] w fun e w'=>∃ (A':Option Addr) (c':Nat),e=.returned (.tuple #[.slice A' (aD a b).length c',.int .i64 0])/\Ao w' w.heap.size A' c' (aD a b)/\Below w.heap.size w w':=by
 have HC:=hid (ladd_anyC a b A C ca cc w ha hb hac hbc hl h3 hba hbb);clear ha hb hac hbc hl h3 hba hbb;go_enter Tryz.func91,Tryz.ntmps91;go_wp2_with fail;refine HC.out.mono ?_;rintro e w1 ⟨A',c',rfl,ho,hb1⟩;have HO:=hid ho;have HB:=hid hb1;clear ho hb1 HC;go_wp2_with fail;go_ret2;exact ⟨A',c',rfl,HO.out,HB.out⟩
theorem lsub_anyC (a b:List Int) (A C:Option Addr) (ca cc:Nat) (w:World) (ha:Cs w A (ints a)) (hb:Cs w C (ints b)) (hac:a.length<=ca/\ca<=maxLen) (hbc:b.length<=cc/\cc<=maxLen) (hl:a.length=b.length) (h3:a.length<=3) (hba:Bnd 1000000 a) (hbb:Bnd 1000000 b) :
  Calls Tryz.prog 135 #[.slice A a.length ca,.slice C b.length cc,.func (Fn.func 162) #[] #[]] w fun e w'=>∃ (A':Option Addr) (c':Nat),e=.returned (.tuple #[.slice A' (Cy a b).length c',.int .i64 0])/\Ao w' w.heap.size A' c' (Cy a b)/\Below w.heap.size w w':=by
 have HA:=hid ha;have HC:=hid hb;have HBA:=hid hba;have HBB:=hid hbb;have HL:=hid hl;unfold maxLen at hac hbc;have hlb:((a.length:Int) != (b.length:Int))=false:=by rw [hl];simp
 have hmk:=Mi a.length (by omega);obtain ⟨n4,p4⟩:=Na w (.cells (madeCells #[.int .i64 0] a.length) 3);have HN4:=hid n4;have HP4:=hid (show (w.alloc (.cells (madeCells #[.int .i64 0] a.length) 3)).heap[w.heap.size]? = some (.cells (ints (Cw (·- ·) a b 0)).toArray 3) by rw [p4,mI,<- opL_0 (·- ·) a b]);have HE:=hid (show Cy a b=Cw (·- ·) a b a.length from rfl)
 have hlen:=OL (·- ·) a b a.length;have HLEN:=hid hlen;clear ha hb n4 p4 hl hba hbb hlen;go_enter Tryz.func135,Tryz.ntmps135;(try simp only [Bm]);go_upto_region 4 with fail;generalize w.alloc (.cells (madeCells #[.int .i64 0] a.length) 3)=wa at *;obtain ⟨g4,hg4⟩:∃ g4,g4=w.heap.size:=⟨_,rfl⟩
 have HG4:=hid (show w.heap.size<=g4 by omega);rw [<- hg4] at HP4;rw [<- hg4];clear hg4 hmk;go_wp2_with fail;go_loopw [9,20] (fun _ j wr=>∃ k:Nat,k<=a.length/\j=.int .i64 k/\wr.heap[g4]? = some (.cells (ints (Cw (·- ·) a b k)).toArray 3)/\Below w.heap.size w wr) (fun _ j _=>a.length - (intOf j).toNat)
 case atStart=>exact ⟨0,Nat.zero_le _,rfl,HP4.out,HN4.out⟩
 case round =>
  clear HP4 HN4;obtain ⟨k,hk,rfl,hr4,hbel⟩:=hrel;have HR4:=hid hr4;have HB:=hid hbel;clear hr4 hbel;by_cases hlt:k<a.length
  ·have hlt1:(k:Int)<(a.length:Int):=by omega
   have hlt2:k<b.length:=by have:=HL.out;omega
   have hlt3:(k:Int)<(b.length:Int):=by omega
   obtain ⟨ga,oa,hA1,hga,hx1⟩:=HA.out (by rw [il];omega);obtain ⟨gb,ob,hC1,hgb,hy1⟩:=HC.out (by rw [il];omega);have hxb:=HBA.out.at_ k hlt;have hyb:=HBB.out.at_ k hlt2;have x0:=(HB.out.cell (p:=⟨ga,oa+k,none⟩) hga).trans (hx1 k _ (iK a k hlt));have y0:=(HB.out.cell (p:=⟨gb,ob+k,none⟩) hgb).trans (hy1 k _ (iK b k hlt2));have HSET:=hid (opL_set (·- ·) a b k)
   rw [<- getD_at a 0 hlt] at x0;rw [<- getD_at b 0 hlt2] at y0;have HNA:=hid (show ga≠g4 from Nat.ne_of_lt (Nat.lt_of_lt_of_le hga HG4.out));have HNB:=hid (show gb≠g4 from Nat.ne_of_lt (Nat.lt_of_lt_of_le hgb HG4.out))
   have HKS:=hid (show ∀ (w':World) (b' o':Nat) (v:Value) {u:Value},w'.cell? ⟨b',o',none⟩=some u->b'≠g4->(w'.setCell ⟨g4,k,none⟩ v).cell? ⟨b',o',none⟩=some u from fun w' b' o' v u h hne=>by
    rw [<- h];exact World.cell?_of_block (w:=w') (w':=w'.setCell ⟨g4,k,none⟩ v) (a:=⟨b',o',none⟩) (Below.heap_setCell _ _ _ _ hne))
   obtain ⟨x,hx⟩:∃ x,x=a.getD k 0:=⟨_,rfl⟩
   obtain ⟨y,hy⟩:∃ y,y=b.getD k 0:=⟨_,rfl⟩
   rw [<- hx] at x0 hxb HSET;rw [<- hy] at y0 hyb HSET;rw [hA1,hC1];clear hx1 hy1 hA1 hC1 hx hy;have HRD:=hid (show wr.drew.heap[g4]? = some (.cells (ints (Cw (·- ·) a b k)).toArray 3) from HR4.out);have HBD:=hid (show Below w.heap.size w wr.drew from HB.out.drew);have f0:=fz HRD.out k
   have f1:∃ u,wr.drew.cell? ⟨g4,k,none⟩=some u:=⟨_,CX HRD.out k _ (by rw [List.getElem?_toArray];exact iK _ k (by rw [OL];exact hlt))⟩
   obtain ⟨u0,f1⟩:=f1;go_upto_region 7 with fail;have hS0:(fun w'=>w'.cell? ⟨ga,oa+k,none⟩=some (.int .i64 x)/\w'.cell? ⟨gb,ob+k,none⟩=some (.int .i64 y)) wr.drew:=⟨x0,y0⟩
   refine wp_region_held_drew (S:=fun w'=>w'.cell? ⟨ga,oa+k,none⟩=some (.int .i64 x)/\w'.cell? ⟨gb,ob+k,none⟩=some (.int .i64 y)) (by kernel_rfl) hS0 (fun _=>?_);refine td 0 ?_;refine td 1 ?_;refine td 2 ?_;refine td 3 ?_;refine td 4 ?_;refine td 5 ?_;(try simp only [Act.put,P1,pu,P3]);refine Tv 6 (v:=?_) ?_ ?_;rotate_left
   ·(intro w hSw;obtain ⟨q0,q1⟩:=hSw;go_simp;(try with_reducible rfl))
   refine td 7 ?_;refine td 8 ?_;refine td 9 ?_;(try simp only [Act.put,P1,pu,P3]);refine Tv 10 (v:=?_) ?_ ?_;rotate_left
   ·(intro w hSw;obtain ⟨q0,q1⟩:=hSw;go_simp;(try with_reducible rfl))
   (try simp only [Act.put,P1,pu,P3]);refine one 11 (fun K hK=>?_);go_simp;refine (lminus_any x y _ hxb hyb).mono ?_;rintro e w6 ⟨rfl,rfl⟩;refine hK.out _ _ (by assumption) (fun _=>?_);clear hK K;refine td 12 ?_;(try simp only [Act.put,P1,pu,P3]);refine one 13 (fun K hK=>?_);go_simp;refine hK.out _ _ (⟨HKS.out _ _ _ _ x0 HNA.out,HKS.out _ _ _ _ y0 HNB.out⟩) (fun _=>?_);clear hK K
   (try simp only [Act.put]);refine wpAnyH_done (by kernel_rfl) ?_ _;have HS:=hid (show (wr.drew.setCell ⟨g4,k,none⟩ (.int .i64 (x - y))).heap[g4]? = some (.cells (ints (Cw (·- ·) a b (k+1))).toArray 3) by rw [Hp HRD.out,ints_set,HSET.out]);have HBS:=hid (show Below w.heap.size w (wr.drew.setCell ⟨g4,k,none⟩ (.int .i64 (x - y))) from HBD.out.setCell (p:=⟨g4,k,none⟩) HG4.out _)
   go_wp2_with fail;go_roundw
   case rel=>exact ⟨k+1,by omega,by go_num,HS.out,HBS.out⟩
   case measure=>simp [intOf];omega
  ·have hlt1:¬ (k:Int)<(a.length:Int):=by omega
   have hke:k=a.length:=by omega
   subst hke;go_wp2_with fail;go_ret2;refine ⟨some ⟨g4,0,none⟩,a.length,by rw [HE.out,HLEN.out];rfl,?_,HB.out⟩;rw [HE.out];show OR _ _ _ _ _ (Cw (·- ·) a b a.length).length _ _
   rw [HLEN.out];exact oM HR4.out HG4.out HLEN.out (by unfold maxLen;omega)
theorem lsub_any (a b:List Int) (A C:Option Addr) (ca cc:Nat) (w:World) (ha:Cs w A (ints a)) (hb:Cs w C (ints b)) (hac:a.length<=ca/\ca<=maxLen) (hbc:b.length<=cc/\cc<=maxLen) (hl:a.length=b.length) (h3:a.length<=3) (hba:Bnd 1000000 a) (hbb:Bnd 1000000 b) :
  Calls Tryz.prog 121 #[.slice A a.length ca,.slice C b.length cc] w fun e w'=>∃ (A':Option Addr) (c':Nat),e=.returned (.tuple #[.slice A' (Cy a b).length c',.int .i64 0])/\Ao w' w.heap.size A' c' (Cy a b)/\Below w.heap.size w w':=by
 have HC:=hid (lsub_anyC a b A C ca cc w ha hb hac hbc hl h3 hba hbb);clear ha hb hac hbc hl h3 hba hbb;go_enter Tryz.func121,Tryz.ntmps121;go_wp2_with fail;refine HC.out.mono ?_;rintro e w1 ⟨A',c',rfl,ho,hb1⟩;have HO:=hid ho;have HB:=hid hb1;clear ho hb1 HC;go_wp2_with fail;go_ret2;exact ⟨A',c',rfl,HO.out,HB.out⟩
def fL (a b:List Int):Bool:=(a.length == b.length) && (List.range a.length).all fun i=>decide (a.getD i 0<=b.getD i 0)
theorem fitL_no {a b:List Int} {k:Nat} (hk:k<a.length) (h:¬ a.getD k 0<=b.getD k 0):fL a b=false:=by
 unfold fL;rw [Bool.and_eq_false_iff];refine Or.inr ?_;rw [List.all_eq_false];exact ⟨k,List.mem_range.2 hk,by rw [decide_eq_false h];simp⟩
theorem fitL_yes {a b:List Int} (hl:a.length=b.length) (h:∀ k,k<a.length->a.getD k 0<=b.getD k 0):fL a b=true:=by
 unfold fL;rw [hl,beq_self_eq_true,Bool.true_and,List.all_eq_true];intro k hk;exact decide_eq_true (h k (by rw [hl];exact List.mem_range.1 hk))
theorem Ly (a b:List Int) (A C:Option Addr) (ca cc:Nat) (w:World) (ha:Cs w A (ints a)) (hb:Cs w C (ints b)) (hac:a.length<=ca/\ca<=maxLen) (hbc:b.length<=cc/\cc<=maxLen) (hl:a.length=b.length) :
  Calls Tryz.prog 67 #[.slice A a.length ca,.slice C b.length cc] w fun e w'=>e=.returned (.bool (fL a b))/\w'=w:=by
 have HA:=hid ha;have HC:=hid hb;have HL:=hid hl;unfold maxLen at hac hbc;have hlb:((a.length:Int) != (b.length:Int))=false:=by rw [hl];simp
 clear ha hb hl;go_enter Tryz.func67,Tryz.ntmps67;go_wp2_with fail;go_loopw [4,5,6,14] (fun _ _ _ j wr=>∃ k:Nat,k<=a.length/\j=.int .i64 k/\(∀ i,i<k->a.getD i 0<=b.getD i 0)/\wr=w) (fun _ _ _ j _=>a.length - (intOf j).toNat)
 case atStart=>exact ⟨0,Nat.zero_le _,rfl,fun i h=>absurd h (Nat.not_lt_zero _),by trivial⟩
 case round =>
  obtain ⟨k,hk,rfl,hall,rfl⟩:=hrel;have HALL:=hid hall;clear hall;by_cases hlt:k<a.length
  ·have hlt1:(k:Int)<(a.length:Int):=by omega
   have hlt2:k<b.length:=by have:=HL.out;omega
   have hlt3:(k:Int)<(b.length:Int):=by omega
   obtain ⟨ga,oa,hA1,hga,hx1⟩:=HA.out (by rw [il];omega);obtain ⟨gb,ob,hC1,hgb,hy1⟩:=HC.out (by rw [il];omega);have x0:=hx1 k _ (iK a k hlt);have y0:=hy1 k _ (iK b k hlt2);have HNO:=hid (fun h=>fitL_no (b:=b) hlt h)
   have HNX:=hid (show a.getD k 0<=b.getD k 0->∀ i,i<k+1->a.getD i 0<=b.getD i 0 from fun h i hi=>by
    by_cases e:i=k
    ·subst e;exact h
    ·exact HALL.out i (by omega))
   rw [<- getD_at a 0 hlt] at x0;rw [<- getD_at b 0 hlt2] at y0;rw [hA1,hC1];clear hx1 hy1 hA1 hC1;generalize a.getD k 0=x at *;generalize b.getD k 0=y at *;by_cases hxy:x<=y
   ·have HN:=hid (HNX.out hxy)
    have hxy2:¬ y<x:=by omega
    clear HNX HNO hxy;go_wp2_with fail;go_roundw
    case rel=>exact ⟨k+1,by omega,by go_num,HN.out,by trivial⟩
    case measure=>simp [intOf];omega
   ·have HN:=hid (HNO.out hxy)
    have hxy2:y<x:=by omega
    clear HNX HNO hxy;go_wp2_with fail;go_ret;exact ⟨rb HN.out.symm,rfl⟩
  ·have hlt1:¬ (k:Int)<(a.length:Int):=by omega
   have HN:=hid (fitL_yes HL.out fun i hi=>HALL.out i (by omega));go_wp2_with fail;go_ret;exact ⟨rb HN.out.symm,rfl⟩
def Sf (x:IV) (i:Int):Int:=match OA x i with
 |some o=>o.skills
 |none=>0
def lF (x:IV) (i:Int):List Int:=match OA x i with
 |some o=>o.load
 |none=>[]
def PN (x:IV) (i:Int):Bool:=match OA x i with
 |some o=>decide (o.pick.place<0)
 |none=>false
def sV (vs:List (Int × Bool)):Nat:=vs.foldl (fun s v=>s ||| 1 <<< v.1.toNat) 0
theorem setV_snoc (vs:List (Int × Bool)) (v:Int × Bool):sV (vs ++ [v])=sV vs ||| 1 <<< v.1.toNat:=by unfold sV;rw [List.foldl_append];rfl
theorem Cm {vs:List (Int × Bool)} {k:Nat} (h:k<vs.length):sV (vs.take (k+1))=sV (vs.take k) ||| 1 <<< vs[k].1.toNat:=by
 rw [List.take_add_one,List.getElem?_eq_getElem h];exact setV_snoc _ _
theorem setV_lt {vs:List (Int × Bool)} (h:∀ v ∈ vs,v.1<3):sV vs<8:=by
 unfold sV
 have key:∀ (l:List (Int × Bool)) (s:Nat),s<8->(∀ v ∈ l,v.1<3)->l.foldl (fun s v=>s ||| 1 <<< v.1.toNat) s<8:=by
  intro l
  induction l with
  |nil=>intro s hs _;exact hs
  |cons v l ih =>
   intro s hs hl;rw [List.foldl_cons];refine ih _ ?_ fun u hu=>hl u (by simp [hu]);refine Nat.or_lt_two_pow (n:=3) hs ?_;have h3:v.1.toNat<3:=by have:=hl v (by simp);omega
   rw [Nat.one_shiftLeft];exact Nat.pow_lt_pow_right (by decide) h3
 exact key vs 0 (by decide) h
theorem or_bit:∀ s,s<8->∀ o,o<3->bits BinOp.or IntKind.i64 ((s:Nat):Int) (wrap64 (2 ^ o))=((s ||| 1 <<< o:Nat):Int):=by decide +kernel
theorem sorders_any (r:RM) (w:World) (hr:Rt w r) (hv:∀ v ∈ r.r.vis,0<=v.1/\v.1<3) :
  Calls Tryz.prog 118 #[ro r] w fun e w'=>e=.returned (.tuple #[.int .i64 (sV r.r.vis),.int .i64 0])/\Below w.heap.size w w':=by
 obtain ⟨n4,p4⟩:=Na w (.cells (rR r) 34);have HN4:=hid n4;have HC:=hid (hr.vis.below n4);have y3:=CX p4 3 (.slice r.C r.r.vis.length r.cc) rfl;have hvl:=hr.vl;have HV:=hid hv;unfold maxLen at hvl;clear hr n4 p4 hv;go_enter Tryz.func118,Tryz.ntmps118;(try simp only [Bm]);go_upto_region 1 with fail;rw [rq];generalize w.alloc (.cells (rR r) 34)=wa at *
 obtain ⟨vs,hvs⟩:∃ vs,vs=r.r.vis:=⟨_,rfl⟩
 rw [<- hvs] at HC hvl HV y3;have HVS:=hid hvs;clear hvs;go_wp2_with fail;clear y3;go_loopw [2,3,4,10] (fun _ _ s j wr=>∃ k:Nat,k<=vs.length/\j=.int .i64 k/\s=.int .i64 (sV (vs.take k))/\Below wa.heap.size wa wr) (fun _ _ _ j _=>vs.length - (intOf j).toNat)
 case atStart=>exact ⟨0,Nat.zero_le _,rfl,rfl,Below.refl _ _⟩
 case round =>
  obtain ⟨k,hk,rfl,rfl,hbel⟩:=hrel;have HB:=hid hbel;clear hbel;by_cases hlt:k<vs.length
  ·have hlt1:(k:Int)<(vs.length:Int):=by omega
   obtain ⟨g1,o1,hA1,hg1,hx1⟩:=eP vC (by decide) HC.out (by omega);have x0:=(HB.out.cell (p:=⟨g1,o1+k*2+0,none⟩) hg1).trans (hx1 k hlt 0 _ rfl);have x1:=(HB.out.cell (p:=⟨g1,o1+k*2+1,none⟩) hg1).trans (hx1 k hlt 1 _ rfl);rw [Nat.add_zero] at x0;have hu:=HV.out _ (List.getElem_mem hlt);have HSE:=hid (Cm hlt)
   have hs8:=setV_lt (vs:=vs.take k) fun v hv=>(HV.out v (List.mem_of_mem_take hv)).2;rw [hA1];clear hx1 hA1;generalize vs[k]=u at *;obtain ⟨u0,u1⟩:=u;simp only at x0 x1 hu HSE;obtain ⟨o,ho⟩:∃ o:Nat,u0=(o:Int):=⟨u0.toNat,by omega⟩
   subst ho;have ho3:o<3:=by omega
   have HOR:=hid (or_bit _ hs8 o ho3);rw [Int.toNat_natCast] at HSE;rw [<- HSE.out] at HOR;obtain ⟨s2,hs2⟩:∃ s2,s2=sV (vs.take (k+1)):=⟨_,rfl⟩
   rw [<- hs2] at HOR;have HS2:=hid hs2;clear hu hs2 HSE;obtain ⟨n5,p5⟩:=Na wr (.cells #[.int .i64 (o:Int),.bool u1] 92);go_upto_region 5 with fail;generalize wr.alloc (.cells #[.int .i64 (o:Int),.bool u1] 92)=w5 at *;have HB5:=hid (bL HB.out n5);have y0:=CX p5 0 (.int .i64 (o:Int)) rfl;clear n5 p5 x0 x1 HB;have t1:¬ (o:Int)<0:=by omega
   have t2:¬ (62:Int)<(o:Int):=by omega
   go_wp2_with fail;go_roundw
   case rel=>exact ⟨k+1,by omega,by go_num,by rw [HOR.out,HS2.out],HB5.out⟩
   case measure=>simp [intOf];omega
  ·have hlt1:¬ (k:Int)<(vs.length:Int):=by omega
   have HE:=hid (show sV (vs.take k)=sV r.r.vis by rw [<- HVS.out,List.take_of_length_le (by omega)]);go_wp2_with fail;go_ret2;exact ⟨by rw [HE.out];rfl,HN4.out.trans (HB.out.mono HN4.out.size)⟩
def AA (x:IV) (t:TV) (vs:List (Int × Bool)):Bool:=vs.all fun v=>AB t (Sf x v.1)
theorem able_no {x:IV} {t:TV} {vs:List (Int × Bool)} {k:Nat} (hk:k<vs.length) (h:AB t (Sf x vs[k].1)=false):AA x t vs=false:=by
 unfold AA;rw [List.all_eq_false];exact ⟨_,List.getElem_mem hk,by rw [h];simp⟩
theorem able_yes {x:IV} {t:TV} {vs:List (Int × Bool)} (h:∀ k (hk:k<vs.length),AB t (Sf x vs[k].1)=true):AA x t vs=true:=by
 unfold AA;rw [List.all_eq_true];intro v hv;obtain ⟨k,hk,rfl⟩:=List.getElem_of_mem hv;exact h k hk
def AbleE (x:IV) (t:TV) (vs:List (Int × Bool)) (w:World) (e:Ending) (w':World):Prop:=∃ k:Int,e=.returned (.int .i64 k)/\(k=0↔AA x t vs=true)/\Below w.heap.size w w'
theorem AbleE.no {x:IV} {t:TV} {vs:List (Int × Bool)} {w w':World} (h:AA x t vs=false) (hb:Below w.heap.size w w'):AbleE x t vs w (.returned (.int .i64 18)) w':=⟨18,rfl,⟨fun h2=>absurd h2 (by decide),fun h2=>by rw [h] at h2;cases h2⟩,hb⟩
theorem AbleE.yes {x:IV} {t:TV} {vs:List (Int × Bool)} {w w':World} (h:AA x t vs=true) (hb:Below w.heap.size w w'):AbleE x t vs w (.returned (.int .i64 0)) w':=⟨0,rfl,⟨fun _=>h,fun _=>rfl⟩,hb⟩
theorem Ti {m:IM} {t:Ty} (h:t ∈ m.types):t.t ∈ m.v.types:=List.mem_map.2 ⟨t,h,rfl⟩
theorem ord_in {m:IM} {o:OM} (h:o ∈ m.ords):o.o ∈ m.v.ords:=List.mem_map.2 ⟨o,h,rfl⟩
theorem si {m:IM} {k:Nat} (h:k<m.ords.length):Sf m.v (k:Int)=m.ords[k].o.skills:=by
 unfold Sf;rw [show OA m.v (k:Int)=some m.ords[k].o from On (m:=m) (i:=(k:Int)) (by omega) (by simpa using h)]
theorem Ln {m:IM} {k:Nat} (h:k<m.ords.length):lF m.v (k:Int)=m.ords[k].o.load:=by
 unfold lF;rw [show OA m.v (k:Int)=some m.ords[k].o from On (m:=m) (i:=(k:Int)) (by omega) (by simpa using h)]
theorem pickNeg_in {m:IM} {k:Nat} (h:k<m.ords.length):PN m.v (k:Int)=decide (m.ords[k].o.pick.place<0):=by
 unfold PN;rw [show OA m.v (k:Int)=some m.ords[k].o from On (m:=m) (i:=(k:Int)) (by omega) (by simpa using h)]
theorem rable_any (m:IM) (r:RM) (w:World) (hm:IA w m) (hok:IK m.v) (hml:m.ords.length<=3) (hr:Rt w r) (hk0:0<=r.r.kind) (hkl:r.r.kind.toNat<m.types.length) (hv:∀ v ∈ r.r.vis,0<=v.1/\v.1<(m.ords.length:Int)) :
  Calls Tryz.prog 20 #[iA m,ro r] w (AbleE m.v m.types[r.r.kind.toNat].t r.r.vis w):=by
 obtain ⟨k1,k2,k3⟩:=aL w (.cells (iQ m) 30) (.cells (rR r) 34);have HB:=hid k3;have HO:=hid hm.ords;have HTY:=hid hm.types;have hol:=hm.ol;have htl:=hm.tl;have HV:=hid hr.vis;have hvl:=hr.vl;have HRNG:=hid hv;have hnt:m.types.length<=2:=by have h:=hok.nt;unfold IM.v at h;rw [List.length_map] at h;exact h
 have hts:=(hok.typesX _ (Ti (List.getElem_mem hkl))).skills.1;have HSK:=hid (fun k (hk:k<m.ords.length)=>(hok.ordsX _ (ord_in (List.getElem_mem hk))).skills.1);unfold maxLen at hol htl hvl
 have HTX:=hid (show ∀ (wz:World),Below w.heap.size w wz->∃ gt ot,m.tA=some ⟨gt,ot,none⟩/\gt<wz.heap.size/\∀ j v,(m.types[r.r.kind.toNat].cells)[j]? = some v->wz.cell? ⟨gt,ot+r.r.kind.toNat*14+j,none⟩=some v from fun wz hb=>by
  obtain ⟨g1,o1,hA1,hg1,hx1⟩:=eP Ty.cells_len (by decide) (hm.types.below hb) (by omega);exact ⟨g1,o1,hA1,hg1,fun j v h=>hx1 r.r.kind.toNat hkl j v h⟩)
 have HK1:=hid k1;have HK2:=hid k2;obtain ⟨t,ht⟩:∃ t,t=m.types[r.r.kind.toNat]:=⟨_,rfl⟩
 rw [<- ht] at HTX hts;rw [<- ht];clear hm hr k1 k2 k3 hok hv ht;go_enter Tryz.func20,Tryz.ntmps20;(try simp only [Bm]);go_upto_region 1 with fail;rw [iq,rq];generalize (w.alloc (.cells (iQ m) 30)).alloc (.cells (rR r) 34)=wa at *;obtain ⟨h1,hh1⟩:∃ h1,h1=w.heap.size:=⟨_,rfl⟩
 obtain ⟨h2,hh2⟩:∃ h2,h2=w.heap.size+1:=⟨_,rfl⟩
 rw [<- hh2] at HK2;rw [<- hh1] at HK1;rw [<- hh2,<- hh1];clear hh1 hh2;have r3:=CX HK2.out 3 (.slice r.C r.r.vis.length r.cc) rfl;obtain ⟨vs,hvs⟩:∃ vs,vs=r.r.vis:=⟨_,rfl⟩
 rw [<- hvs] at HV hvl r3 HRNG;have HVS:=hid hvs;clear hvs;go_wp2_with fail;clear r3;go_loopw [4,10] (fun _ j wr=>∃ k:Nat,k<=vs.length/\j=.int .i64 k/\(∀ i (h:i<vs.length),i<k->AB t.t (Sf m.v vs[i].1)=true)/\Below wa.heap.size wa wr) (fun _ j _=>vs.length - (intOf j).toNat)
 case atStart=>exact ⟨0,Nat.zero_le _,rfl,fun i _ h=>absurd h (Nat.not_lt_zero _),Below.refl _ _⟩
 case round =>
  obtain ⟨k,hk,rfl,hno,hbel⟩:=hrel;have HBR:=hid hbel;have HNO:=hid hno;clear hbel hno;by_cases hlt:k<vs.length
  ·have hlt1:(k:Int)<(vs.length:Int):=by omega
   obtain ⟨g1,o1,hA1,hg1,hx1⟩:=eP vC (by decide) (HV.out.below HB.out) (by omega);have x0:=(HBR.out.cell (p:=⟨g1,o1+k*2+0,none⟩) hg1).trans (hx1 k hlt 0 _ rfl);have x1:=(HBR.out.cell (p:=⟨g1,o1+k*2+1,none⟩) hg1).trans (hx1 k hlt 1 _ rfl);rw [Nat.add_zero] at x0;have hu:=HRNG.out _ (List.getElem_mem hlt);have HBAD:=hid (fun h=>able_no (x:=m.v) (t:=t.t) hlt h)
   have HNEXT:=hid (show AB t.t (Sf m.v vs[k].1)=true->∀ i (h:i<vs.length),i<k+1->AB t.t (Sf m.v vs[i].1)=true from fun h i hi hik=>by
    by_cases e:i=k
    ·subst e;exact h
    ·exact HNO.out i hi (by omega))
   rw [hA1];clear hx1 hA1;obtain ⟨u,hu'⟩:∃ u,u=vs[k]:=⟨_,rfl⟩
   rw [<- hu'] at x0 x1 HBAD HNEXT hu;clear hu';obtain ⟨u0,u1⟩:=u;simp only at x0 x1 hu HBAD HNEXT;obtain ⟨o,ho⟩:∃ o:Nat,u0=(o:Int):=⟨u0.toNat,by omega⟩
   subst ho;have hol1:o<m.ords.length:=by omega
   have hol2:(o:Int)<(m.ords.length:Int):=hu.2;have hkl2:r.r.kind<(m.types.length:Int):=by omega
   have HSO:=hid (si hol1);have hos:=HSK.out o hol1;obtain ⟨n5,p5⟩:=Na wr (.cells #[.int .i64 (o:Int),.bool u1] 92);go_upto_region 4 with fail;generalize hw5:wr.alloc (.cells #[.int .i64 (o:Int),.bool u1] 92)=w5 at *;clear hw5;have HB5:=hid (bL HBR.out n5);have HBW:=hid (bL HB.out HB5.out);have HK15:=hid (rK HK1.out HB5.out)
   have HK25:=hid (rK HK2.out HB5.out);have HP5:=hid p5;obtain ⟨g5,hg5⟩:∃ g5,g5=wr.heap.size:=⟨_,rfl⟩
   rw [<- hg5] at HP5;rw [<- hg5];obtain ⟨gt,ot,hT1,hgt5,hTC⟩:=HTX.out w5 HBW.out;obtain ⟨go,oo,hO1,hgo5,hoc⟩:=eP OM.cells_len (by decide) (HO.out.below HBW.out) (by omega);have HOC:=hid (hoc o hol1 10 _ rfl);have HTC:=hid hTC;unfold iQ at HK15;rw [hT1,hO1] at HK15;have hd:Below w5.heap.size w5 w5.drew:=(Below.refl _ w5).drew;generalize m.ords[o]=om at *
   clear n5 p5 hg5 x0 x1 hT1 hO1 hTC hoc hu;have HFA:=hid (fun w'=>fA t om.o.skills w' hts hos)
   cases hab:AB t.t om.o.skills with
   |true =>
    have HN:=hid (HNEXT.out (by rw [HSO.out];exact hab));rw [hab] at HFA;clear HNEXT HBAD hab;have hS0:(fun w'=>Below w5.heap.size w5 w') w5.drew:=hd;refine wp_region_held_drew (S:=fun w'=>Below w5.heap.size w5 w') (by kernel_rfl) hS0 (fun _=>?_);refine td 0 ?_;refine tq 1 (fun w hSw=>CX (rK HK15.out hSw) 2 (.slice (some ⟨gt,ot,none⟩) m.types.length m.tc) rfl) ?_;refine td 2 ?_
    refine tq 3 (fun w hSw=>CX (rK HK25.out hSw) 0 (.int .i64 r.r.kind) rfl) ?_;refine td 4 ?_;refine tkl 5 (t.cells) Tryz.underlying81 (fun w hSw=>fun j v hv=>(hSw.cell (p:=⟨gt,ot+r.r.kind.toNat*14+j,none⟩) hgt5).trans (HTC.out j v hv)) ?_;refine td 6 ?_;refine tq 7 (fun w hSw=>CX (rK HK15.out hSw) 3 (.slice (some ⟨go,oo,none⟩) m.ords.length m.oc) rfl) ?_;refine td 8 ?_
    refine tq 9 (fun w hSw=>CX (rK HP5.out hSw) 0 (.int .i64 (o:Int)) rfl) ?_;refine td 10 ?_;refine td 11 ?_;refine tq 12 (fun w hSw=>(hSw.cell (p:=⟨go,oo+o*16+10,none⟩) hgo5).trans HOC.out) ?_;(try simp only [Act.put,P1,pu,P3]);refine one 13 (fun K hK=>?_);go_simp;refine (HFA.out _).mono ?_;rintro e w6 ⟨rfl,hb6⟩;have HB6:=hid hb6
    refine hK.out _ _ (bL hd hb6) (fun _=>?_);clear hK K;refine td 14 ?_;(try simp only [Act.put,P1,pu,P3]);refine wpAnyH_done (by kernel_rfl) ?_ _;go_wp2_with fail;go_roundw
    case rel=>exact ⟨k+1,by omega,by go_num,HN.out,bL (bL HB5.out hd) HB6.out⟩
    case measure=>simp [intOf];omega
   |false =>
    have HN:=hid (HBAD.out (by rw [HSO.out];exact hab));rw [hab] at HFA;clear HNEXT HBAD hab;have hS0:(fun w'=>Below w5.heap.size w5 w') w5.drew:=hd;refine wp_region_held_drew (S:=fun w'=>Below w5.heap.size w5 w') (by kernel_rfl) hS0 (fun _=>?_);refine td 0 ?_;refine tq 1 (fun w hSw=>CX (rK HK15.out hSw) 2 (.slice (some ⟨gt,ot,none⟩) m.types.length m.tc) rfl) ?_;refine td 2 ?_
    refine tq 3 (fun w hSw=>CX (rK HK25.out hSw) 0 (.int .i64 r.r.kind) rfl) ?_;refine td 4 ?_;refine tkl 5 (t.cells) Tryz.underlying81 (fun w hSw=>fun j v hv=>(hSw.cell (p:=⟨gt,ot+r.r.kind.toNat*14+j,none⟩) hgt5).trans (HTC.out j v hv)) ?_;refine td 6 ?_;refine tq 7 (fun w hSw=>CX (rK HK15.out hSw) 3 (.slice (some ⟨go,oo,none⟩) m.ords.length m.oc) rfl) ?_;refine td 8 ?_
    refine tq 9 (fun w hSw=>CX (rK HP5.out hSw) 0 (.int .i64 (o:Int)) rfl) ?_;refine td 10 ?_;refine td 11 ?_;refine tq 12 (fun w hSw=>(hSw.cell (p:=⟨go,oo+o*16+10,none⟩) hgo5).trans HOC.out) ?_;(try simp only [Act.put,P1,pu,P3]);refine one 13 (fun K hK=>?_);go_simp;refine (HFA.out _).mono ?_;rintro e w6 ⟨rfl,hb6⟩;have HB6:=hid hb6
    refine hK.out _ _ (bL hd hb6) (fun _=>?_);clear hK K;refine td 14 ?_;(try simp only [Act.put,P1,pu,P3]);refine wpAnyH_done (by kernel_rfl) ?_ _;go_wp2_with fail;go_ret;exact AbleE.no (by rw [<- HVS.out];exact HN.out) (bL HB.out (bL (bL HB5.out hd) HB6.out))
  ·have hlt1:¬ (k:Int)<(vs.length:Int):=by omega
   have HR:=hid (able_yes (x:=m.v) (t:=t.t) (vs:=vs) fun i hi=>HNO.out i hi (by omega));go_wp2_with fail;go_ret;exact AbleE.yes (by rw [<- HVS.out];exact HR.out) (bL HB.out HBR.out)
end Go.Proofs.YtjcekdiocliddaaGreatDoor

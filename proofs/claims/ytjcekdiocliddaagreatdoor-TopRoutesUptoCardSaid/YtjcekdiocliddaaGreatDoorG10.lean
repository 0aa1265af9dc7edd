/- Numbers as texts: what is read, plain. -/
import Derived.Test.YtjcekdiocliddaaGreatDoorG1
import Derived.Test.YtjcekdiocliddaaGreatDoorG8
import Derived.Shelf.Strings.Prefix
import Derived.Lib.AtoiAll
import Derived.Lib.AtoiErrMem
import Derived.Test.YtjcekdiocliddaaGreatDoorG5
import Derived.Lib.ParseIntBTie
namespace Go.Proofs.YtjcekdiocliddaaGreatDoor
open Lib (hid)
open Num
namespace Num
theorem trim_mag (l:Sr):Lib.trimPrefix l [45]=mg l:=by
 unfold mg Ac Lib.trimPrefix Lib.hasPrefix
 cases l with
 |nil=>rfl
 |cons c t =>
  by_cases h:c=45
  ·subst h;simp
  ·have:¬ (45:UInt8)=c:=fun e=>h e.symm
   simp [h,this]
end Num
end Go.Proofs.YtjcekdiocliddaaGreatDoor
namespace Go.Proofs.YtjcekdiocliddaaGreatDoor
open Lib (hid)
open Go.RowKit Num
set_option linter.unusedVariables false
attribute [local go_sem] BS Bg Bt Bm Be Ba
theorem itoaI_any (z:Int) (w:World) (hz:fits z) (ht:Tb w) :
  Calls Tryz.prog 160 #[.int .i64 z] w fun e w'=>e=.returned (.string (B (dI z)))/\Below w.heap.size w w':=by
 refine (Tryz.strconv_Itoa z hz.1 hz.2 w ht).mono ?_;rintro e w' ⟨rfl,k,os,rfl⟩;refine ⟨?_,Lib.below_grow _ w (Nat.le_refl _) k os⟩
 have:Lib.itoa z=dI z:=by
  unfold Lib.itoa dI;by_cases h:z<0
  ·rw [if_pos h,if_pos h,decDigits_eq]
  ·rw [if_neg h,if_neg h,decDigits_eq]
   congr 1;omega
 rw [this];rfl
attribute [local go_sem high] rm
theorem has_neg (l:Sr):Lib.hasPrefix l [45]=Ac l:=by
 unfold Ac Lib.hasPrefix
 cases l with
 |nil=>rfl
 |cons c t =>
  by_cases h:c=45
  ·subst h;rfl
  ·have h1:((45:UInt8) == c)=false:=by simpa using fun e:(45:UInt8)=c=>h e.symm
   have h2:(c == (45:UInt8))=false:=by simpa using h
   show ((45:UInt8) == c && _)=(some c == some 45)
   rw [h1,Bool.false_and];simpa using h
theorem cP (l:List UInt8) (w:World):Calls Tryz.prog 181 #[.string (B l),.string (B [45])] w fun e w'=>e=.returned (.tuple #[.string (B (mg l)),.bool (Ac l)])/\w'=w:=by
 refine (Tryz.strings_CutPrefix (B l) (B [45]) w).mono ?_;rintro e w' ⟨rfl,rfl⟩;refine ⟨?_,rfl⟩;rw [show (B l).data.toList=l from by simp [B],show (B [45]).data.toList=[45] from rfl,trim_mag,has_neg];rfl
theorem ret_bsb {a c a' c':Bool} {b b':List UInt8} (h:a=a') (h1:b=b') (h2:c=c'):Ending.returned (.tuple #[.bool a,.string (B b),.bool c])=.returned (.tuple #[.bool a',.string (B b'),.bool c']):=by rw [h,h1,h2]
theorem Py (l:List UInt8) (w:World) (hs:l.length<=maxLen) :
  Calls Tryz.prog 155 #[.string (B l)] w fun e w'=>e=.returned (.tuple #[.bool (Ac l),.string (B (mg l)),.bool (RI l)])/\w'=w:=by
 have hml:=Ml l;have hm:(mg l).length<=maxLen:=Nat.le_trans hml hs;cases hr:right (mg l)
 ·have HR:=hid (show RI l=false by unfold RI;rw [hr];rfl)
  go_enter Tryz.func155,Tryz.ntmps155;simp only [Bm];go_wp2_with fail;refine (cP l w).mono ?_;rintro e w' ⟨rfl,h⟩;obtain rfl:=h.symm;go_wp2_with fail;refine (ra _ w hm).mono ?_;rintro e w' ⟨rfl,h⟩;obtain rfl:=h.symm;go_wp2_with fail;go_ret3;exact ⟨ret_bsb rfl rfl HR.out.symm,rfl⟩
 ·by_cases h0:mg l=[48]
  ·have h0':(mg l == [48])=true:=by simpa using h0
   have HR:=hid (show RI l=!Ac l by unfold RI;rw [hr,h0];simp);clear h0;cases hn:Ac l
   all_goals
    rw [hn] at HR;go_enter Tryz.func155,Tryz.ntmps155;simp only [Bm];go_wp2_with fail;refine (cP l w).mono ?_;rintro e w' ⟨rfl,h⟩;obtain rfl:=h.symm;go_wp2_with fail;refine (ra _ w hm).mono ?_;rintro e w' ⟨rfl,h⟩;obtain rfl:=h.symm;go_wp2_with fail;go_ret3;exact ⟨ret_bsb rfl rfl HR.out.symm,rfl⟩
  ·have h0':(mg l == [48])=false:=by simpa using h0
   have HR:=hid (show RI l=true by unfold RI;rw [hr,h0'];simp);clear h0;cases hn:Ac l
   all_goals
    go_enter Tryz.func155,Tryz.ntmps155;simp only [Bm];go_wp2_with fail;refine (cP l w).mono ?_;rintro e w' ⟨rfl,h⟩;obtain rfl:=h.symm;go_wp2_with fail;refine (ra _ w hm).mono ?_;rintro e w' ⟨rfl,h⟩;obtain rfl:=h.symm;go_wp2_with fail;go_ret3;exact ⟨ret_bsb rfl rfl HR.out.symm,rfl⟩
theorem wright_any (l:List UInt8) (w:World) (hs:l.length<=maxLen) :
  Calls Tryz.prog 169 #[.string (B l)] w fun e w'=>e=.returned (.bool (RI l))/\w'=w:=by
 go_enter Tryz.func169,Tryz.ntmps169;go_wp2_with fail;refine (Py l w hs).mono ?_;rintro e w' ⟨rfl,h⟩;obtain rfl:=h.symm;go_wp2_with fail;go_ret;exact ⟨rfl,rfl⟩
end Go.Proofs.YtjcekdiocliddaaGreatDoor
namespace Go.Proofs.YtjcekdiocliddaaGreatDoor
open Lib (hid)
open Go.RowKit
set_option linter.unusedVariables false
def OR (w:World) (Bs:Nat) (e:TypeId) (sz:Nat) (A:Option Addr) (n c:Nat) (xs:List Value):Prop:=w.ownsRow Bs e sz (.slice A n c) n xs
section
variable {w w':World} {Bs Bs' sz n c:Nat} {e:TypeId} {A:Option Addr} {xs:List Value}
theorem OR.nil (w:World) (Bs:Nat) (e:TypeId) (sz:Nat):OR w Bs e sz none 0 0 []:=⟨by simp,.inl ⟨rfl,rfl⟩⟩
theorem OR.len (h:OR w Bs e sz A n c xs):xs.length=n*sz:=h.1
theorem OR.cap (h:OR w Bs e sz A n c xs):n<=c/\c<=maxLen:=by
 rcases h.2 with ⟨hv,hn⟩ | ⟨g,cap,cur,hv,_,_,h1,h2,_⟩
 ·injection hv with _ _ hc;subst hc;subst hn;exact ⟨Nat.le_refl _,Nat.zero_le _⟩
 ·injection hv with _ _ hc;subst hc;exact ⟨h1,h2⟩
theorem OR.below (h:OR w Bs e sz A n c xs) (hb:Below w.heap.size w w'):OR w' Bs e sz A n c xs:=by
 refine ⟨h.1,?_⟩;rcases h.2 with h2 | ⟨g,cap,cur,hv,hg,hh,r⟩
 ·exact .inl h2
 ·refine .inr ⟨g,cap,cur,hv,hg,?_,r⟩
  rw [hb.block g ?_];exact hh;rcases Nat.lt_or_ge g w.heap.size with h' | h'
  ·exact h'
  ·rw [Array.getElem?_eq_none h'] at hh;cases hh
theorem OR.mono (h:OR w Bs e sz A n c xs) (hB:Bs'<=Bs):OR w Bs' e sz A n c xs:=by
 refine ⟨h.1,?_⟩;rcases h.2 with h2 | ⟨g,cap,cur,hv,hg,r⟩
 ·exact .inl h2
 ·exact .inr ⟨g,cap,cur,hv,by omega,r⟩
theorem OR.alloc (h:OR w Bs e sz A n c xs) (o:Obj):OR (w.alloc o) Bs e sz A n c xs:=h.below ((Below.refl _ _).alloc (Nat.le_refl _) _)
theorem OR.at_ (h:OR w Bs e sz A n c xs) (h0:0<n) :
  ∃ g,A=some ⟨g,0,none⟩/\Bs<=g/\g<w.heap.size/\(∀ j,j<n*sz->w.cell? ⟨g,j,none⟩=xs[j]?)/\∀ j,w.frozen? ⟨g,j,none⟩=false:=by
 rcases h.2 with ⟨hv,hn⟩ | ⟨g,cap,cur,hv,hg,hh,h1,_,_,h4⟩
 ·omega
 ·injection hv with hA _ hc
  subst hA;subst hc;refine ⟨g,rfl,hg,?_,fun j hj=>World.ownsRow.cellAt h j hj,fun j=>World.ownsRow.frozenAt h j⟩;rcases Nat.lt_or_ge g w.heap.size with h' | h'
  ·exact h'
  ·rw [Array.getElem?_eq_none h'] at hh;cases hh
end
def ER (P:Program) (t e:TypeId) (z:Value) (sz bytes:Nat):Prop :=
 P.underlying t=some (.slice e)/\(∃ i,P.info? e=some i/\i.zero=some z/\i.size=sz/\i.bytes=bytes)/\z.cells.size=sz/\0<sz
section
variable {P:Program} {ops:Array Oper} {rest:List Oper} {o:Oper} {a:Act} {Q:Exit->Act->World->Prop}
theorem wp_app1r {t e:TypeId} {z:Value} {sz bytes:Nat} (he:ER P t e z sz bytes) (hgd:o.guard=none) (s x:Operand) (ho:o.op=.call { callee:=.builtin .append,args:=#[s,x],argTypes:=#[t,t] })
  (Bs:Nat) (A:Option Addr) (n c:Nat) (xs:List Value) (w:World) (us:Array Value) (hs:a.eval s=.slice A n c) (hown:OR w Bs e sz A n c xs)
  (hx:a.eval x=.slice (some ⟨w.heap.size,0,none⟩) 1 1) (hus:us.size=sz) (h1:∀ u ∈ us.toList,u.oneCell'=true) (h63:n+1<=maxLen) (hby:(n+1)*bytes<=140737488355328) (hbase:Bs<=w.heap.size)
  (h:∀ A' c' w',OR w' Bs e sz A' (n+1) c' (xs ++ us.toList)->Below Bs w w'->wpList P ops Q rest (a.put o.dst (.slice A' (n+1) c')) w') :
  wpList P ops Q (o :: rest) a (w.alloc (.cells us e)):=by
 obtain ⟨ht,⟨i,hi,hz,hsz,hb⟩,hzs,hpos⟩:=he;have hown':(w.alloc (.cells us e)).ownsRow Bs e sz (.slice A n c) n xs:=hown.alloc _;refine wpList_append_own _ hgd s x t ho Bs e i z sz bytes ht hi hz hsz hb hzs hpos _ n xs hs hown' ⟨w.heap.size,0,none⟩ 1 1 us.toList hx (by rw [Array.length_toList,hus];omega) ?_ h1 h63 hby (by simp;omega) ?_
 ·intro j v hj
  rw [Array.getElem?_toList] at hj;have hjl:j<us.size:=(Array.getElem?_eq_some_iff.1 hj).1;unfold Addr.add;by_cases h0:j=0
  ·subst h0;rw [if_pos rfl,World.cell?_alloc_new];exact hj
  ·rw [if_neg h0];show (w.alloc _).cell? ⟨w.heap.size,0+j,none⟩=_;rw [Nat.zero_add,World.cell?_alloc_new];exact hj
 ·intro v' w' h2 h3 h4
  have hne:v'≠.slice none 0 0:=by intro e;have:=(h4.1 e).2;omega
  obtain ⟨g,cap,hv⟩:∃ g cap,v'=.slice (some ⟨g,0,none⟩) (n+1) cap:=by
   rcases h2.2 with ⟨hv,_⟩ | ⟨g,cap,cur,hv,_⟩
   ·exact absurd hv hne
   ·exact ⟨g,cap,hv⟩
  subst hv;refine h _ _ _ h2 ?_;refine ((Below.refl _ _).alloc hbase _).grown h3 (by simp;omega) ?_;intro k hk;rcases hown.2 with ⟨hv,_⟩ | ⟨g',cap',cur',hv,hg',_⟩
  ·rw [hv] at hk;simp [Value.ownBlock] at hk
  ·rw [hv] at hk;simp [Value.ownBlock] at hk;omega
end
end Go.Proofs.YtjcekdiocliddaaGreatDoor
namespace Go.Proofs.YtjcekdiocliddaaGreatDoor
open Lib (hid)
open Go.RowKit Num
def strs (ps:List Sr):List Value:=ps.map fun p=>Value.string (B p)
theorem sH (ps:List Sr):(strs ps).length=ps.length:=by simp [strs]
theorem str_info:(Tryz.prog.info? 9).map (fun i=>(i.zero,i.size,i.bytes))=some (some (.string (B [])),1,16):=by kernel_rfl
theorem el_string:Elem Tryz.prog 22 9 (.string (B [])) 16:=⟨Tryz.underlying22,info_parts str_info,rfl⟩
theorem strs_get (ps:List Sr) (j:Nat) (h:j<ps.length):(strs ps)[j]? = some (.string (B (ps.getD j []))):=by simp [strs,List.getD,h]
set_option linter.unusedVariables false
attribute [local go_sem] BS Bg Bt Bm Be Ba
attribute [local go_sem high] rm
theorem pY (m:Bool) (n:Nat) (w:World) (hl:(dec n).length<=1000000) :
  Calls Tryz.prog 180 #[.agg #[.bool m,.string (B (dec n))]] w fun e w'=>e=.returned (.string (B (dI (sg m n))))/\Below w.heap.size w w':=by
 cases m
 ·have HR:=hid (decI_sg_false n)
  go_enter Tryz.func180,Tryz.ntmps180;simp only [Bm];go_wp2_with fail;go_ret;exact ⟨Aq HR.out.symm,(Below.refl _ _).alloc (Nat.le_refl _) _⟩
 ·by_cases h0:n=0
  ·have HR:=hid (show dI (sg true n)=dec n by rw [h0,sg_zero,decI_zero,dz])
   have h1:(dec n != [48])=false:=by rw [h0,dz];rfl
   have h2:(!(dec n == [48]))=false:=by rw [h0,dz];rfl
   clear h0;go_enter Tryz.func180,Tryz.ntmps180;simp only [Bm];go_wp2_with fail;go_ret;exact ⟨Aq HR.out.symm,(Below.refl _ _).alloc (Nat.le_refl _) _⟩
  ·have HR:=hid (decI_sg_pos h0)
   have hne:dec n≠[48]:=by intro e;rw [<- dz] at e;exact h0 (Di e)
   have h1:(dec n != [48])=true:=by simpa using hne
   have h2:(!(dec n == [48]))=true:=by simpa using hne
   have h3:(dec n == [48])=false:=by simpa using hne
   clear h0 hne;go_enter Tryz.func180,Tryz.ntmps180;simp only [Bm];go_wp2_with fail;go_ret;exact ⟨Aq (by rw [HR.out]),(Below.refl _ _).alloc (Nat.le_refl _) _⟩
theorem CB:∀ (a b:Sr),a.length=b.length->a.all iD=true->b.all iD=true->Lib.compareBytes a b=OI (val a) (val b):=by
 intro a
 induction a with
 |nil =>
  intro b h _ _;have:b=[]:=List.eq_nil_of_length_eq_zero h.symm;subst this;rfl
 |cons c s ih =>
  intro b h h1 h2
  cases b with
  |nil=>simp at h
  |cons d t =>
   simp only [List.all_cons,Bool.and_eq_true] at h1 h2;have hl:s.length=t.length:=by simpa using h
   have hs:=val_lt s h1.2;have ht:=val_lt t h2.2;rw [hl] at hs;have hdc:=h1.1;have hdd:=h2.1;unfold iD at hdc hdd;simp at hdc hdd
   have e1:=Vc c s;have e2:=Vc d t;rw [hl] at e1;rw [Lib.compareBytes];by_cases hlt:c<d
   ·rw [if_pos hlt]
    have hn:c.toNat<d.toNat:=UInt8.lt_iff_toNat_lt.1 hlt;have h3:dv c+1<=dv d:=by unfold dv;omega
    have h4:=Nat.mul_le_mul_right (10 ^ t.length) h3;rw [Nat.add_mul] at h4;exact (ordI_lt (by omega)).symm
   ·rw [if_neg hlt]
    by_cases hgt:d<c
    ·rw [if_pos hgt]
     have hn:d.toNat<c.toNat:=UInt8.lt_iff_toNat_lt.1 hgt;have h3:dv d+1<=dv c:=by unfold dv;omega
     have h4:=Nat.mul_le_mul_right (10 ^ t.length) h3;rw [Nat.add_mul] at h4;exact (ordI_gt (by omega)).symm
    ·rw [if_neg hgt]
     have hcd:c=d:=by
      apply UInt8.toNat_inj.1
      have h5:¬ c.toNat<d.toNat:=fun h=>hlt (UInt8.lt_iff_toNat_lt.2 h);have h6:¬ d.toNat<c.toNat:=fun h=>hgt (UInt8.lt_iff_toNat_lt.2 h);omega
     rw [ih t hl h1.2 h2.2,e1,e2,hcd];unfold OI;split <;> split <;> (try split) <;> (try split) <;> omega
theorem pcompare_any (x y:Nat) (w:World) (hx:(dec x).length<=1000000) (hy:(dec y).length<=1000000) :
  Calls Tryz.prog 158 #[.string (B (dec x)),.string (B (dec y))] w fun e w'=>e=.returned (.int .i64 (OI x y))/\w'=w:=by
 by_cases hl:(dec x).length=(dec y).length
 ·have HR:=hid (show Lib.compareBytes (dec x) (dec y)=OI x y by rw [CB _ _ hl (da x) (da y),vD,vD])
  have h1:(((dec x).length:Int) != ((dec y).length:Int))=false:=by simp;omega
  have h1':(((dec x).length:Int) == ((dec y).length:Int))=true:=by simp;omega
  clear hl;go_enter Tryz.func158,Tryz.ntmps158;go_wp2_with fail;refine (Tryz.strings_Compare (B (dec x)) (B (dec y)) w).mono ?_;rintro e w' ⟨rfl,h⟩;obtain rfl:=h.symm;rw [show (B (dec x)).data.toList=dec x from by simp [B],show (B (dec y)).data.toList=dec y from by simp [B],HR.out];go_wp2_with fail;go_ret;exact ⟨rfl,rfl⟩
 ·have h1:(((dec x).length:Int) != ((dec y).length:Int))=true:=by simp;omega
  have h1':(((dec x).length:Int) == ((dec y).length:Int))=false:=by rw [beq_eq_false_iff_ne];omega
  by_cases hlt:(dec x).length<(dec y).length
  ·have HR:=hid (show OI x y = -1 from ordI_lt (by
    rcases Nat.lt_or_ge x y with h | h
    ·exact h
    ·have:=ld h;omega))
   clear hl;go_enter Tryz.func158,Tryz.ntmps158;go_wp2_with fail;go_ret;exact ⟨ri HR.out.symm,rfl⟩
  ·have HR:=hid (show OI x y=1 from ordI_gt (by
    rcases Nat.lt_or_ge y x with h | h
    ·exact h
    ·have:=ld h;omega))
   clear hl;go_enter Tryz.func158,Tryz.ntmps158;go_wp2_with fail;go_ret;exact ⟨ri HR.out.symm,rfl⟩
theorem num_info:(Tryz.prog.info? 212).map (fun i=>(i.zero,i.size,i.bytes))=some (some (.agg #[.bool false,.string (B [])]),2,24):=by kernel_rfl
theorem el_wnumber:ER Tryz.prog 207 212 (.agg #[.bool false,.string (B [])]) 2 24:=⟨Tryz.underlying207,info_parts num_info,rfl,by decide⟩
def nC (ls:List Sr):List Value:=ls.flatMap fun s=>[.bool (Ac s),.string (B (mg s))]
theorem numCells_snoc (ls:List Sr) (s:Sr):nC (ls ++ [s])=nC ls ++ [.bool (Ac s),.string (B (mg s))]:=by simp [nC]
theorem numCells_get (ls:List Sr) (k:Nat) (h:k<ls.length):(nC ls)[k*2]? = some (.bool (Ac (ls.getD k [])))/\(nC ls)[k*2+1]? = some (.string (B (mg (ls.getD k [])))):=by
 induction ls generalizing k with
 |nil=>simp at h
 |cons a t ih =>
  have e:nC (a :: t)=.bool (Ac a) :: .string (B (mg a)) :: nC t:=rfl;rw [e]
  cases k with
  |zero=>simp
  |succ k =>
   have:=ih k (by simpa using h);rw [show (k+1)*2=k*2+1+1 by omega,List.getElem?_cons_succ,List.getElem?_cons_succ,show k*2+1+1+1=k*2+1+1+1 from rfl,List.getElem?_cons_succ,List.getElem?_cons_succ];simpa using this
def errL (ls:List Sr):Int:=if ls.all RI=true then (if ls.all (fun s=>decide ((mg s).length<=4096))=true then 0 else 4) else 3
def ReadPost (ls:List Sr) (w:World) (e:Ending) (w':World):Prop :=
 (errL ls=0/\∃ A c,e=.returned (.tuple #[.slice A ls.length c,.int .i64 0])/\OR w' w.heap.size 212 2 A ls.length c (nC ls)/\Below w.heap.size w w') ∨
 (errL ls≠0/\e=.returned (.tuple #[.slice none 0 0,.int .i64 (errL ls)])/\Below w.heap.size w w')
set_option maxHeartbeats 2000000 in
theorem Rw (ls:List Sr) (A:Option Addr) (c:Nat) (w:World) (hc:Cs w A (strs ls)) (hn:ls.length<=c) (h0:0<ls.length) (hl:ls.length<=1000) (hs:∀ s ∈ ls,s.length<=maxLen) :
  Calls Tryz.prog 108 #[.slice A ls.length c] w (ReadPost ls w):=by
 obtain ⟨b,off,rfl,hb,hx⟩:=hc (by rw [sH];omega);have HX:=hid hx;have HS:=hid hs;clear hc hx hs;go_enter Tryz.func108,Tryz.ntmps108;go_wp2_with fail
 go_loopw [4,6,7,8,9,14] (fun v _ _ _ _ i wr=>∃ (k:Nat) (A2:Option Addr) (c2:Nat),k<=ls.length/\i=.int .i64 k/\v=.slice A2 k c2/\OR wr w.heap.size 212 2 A2 k c2 (nC (ls.take k))/\(ls.take k).all RI=true/\Below w.heap.size w wr) (fun _ _ _ _ _ i _=>ls.length - (intOf i).toNat)
 case atStart=>exact ⟨0,none,0,Nat.zero_le _,rfl,rfl,OR.nil _ _ _ _,rfl,Below.refl _ _⟩
 case round =>
  obtain ⟨k,A2,c2,hk,rfl,rfl,hown,hall,hbel⟩:=hrel;have HA:=hid hall;clear hall;by_cases hlt:k<ls.length
  ·have hcell:wr.cell? ⟨b,off+k,none⟩=some (.string (B (ls.getD k []))):=(hbel.cell (p:=⟨b,off+k,none⟩) hb).trans (HX.out k _ (strs_get ls k hlt))
   have hm:=HS.out (ls.getD k []) (by rw [List.getD_eq_getElem?_getD,List.getElem?_eq_getElem hlt];exact List.getElem_mem hlt);have HT:=hid (show ls.take (k+1)=ls.take k ++ [ls.getD k []] by rw [List.take_succ_eq_append_getElem hlt];simp [hlt])
   have HB:=hid (show RI (ls.getD k [])=false->errL ls=3 from fun h=>by
    have h1:ls.all RI=false:=by
     rw [List.all_eq_false];exact ⟨ls.getD k [],by rw [List.getD_eq_getElem?_getD,List.getElem?_eq_getElem hlt];exact List.getElem_mem hlt,by rw [h];simp⟩
    unfold errL;rw [h1];rfl)
   generalize ls.getD k []=s at *;cases hr:RI s
   ·have HR:=hid (HB.out hr)
    go_wp2_with fail;refine (Py s wr hm).mono ?_;rintro e w' ⟨rfl,h⟩;obtain rfl:=h.symm;go_wp2_with fail;go_ret2;exact .inr ⟨by rw [HR.out];decide,by rw [HR.out];rfl,hbel⟩
   ·have HR:=hid (show (ls.take (k+1)).all RI=true by rw [HT.out,List.all_append,HA.out];simp [hr])
    go_wp2_with fail;refine (Py s wr hm).mono ?_;rintro e w' ⟨rfl,h⟩;obtain rfl:=h.symm;go_wp2_with (at_builtin;refine wp_app1r el_wnumber rfl _ _ rfl w.heap.size _ _ _ _ _ #[.bool (Ac s),.string (B (mg s))] rfl hown rfl rfl (by simp [Value.oneCell']) (by unfold maxLen;omega) (by omega) hbel.size ?_;intro A3 c3 w3 hown3 hb3)
    go_roundw
    case rel=>exact ⟨k+1,A3,c3,by omega,by go_num,rfl,by rw [HT.out,numCells_snoc];exact hown3,HR.out,hbel.trans hb3⟩
    case measure=>simp [intOf];omega
  ·obtain rfl:k=ls.length:=by omega
   have HT:=hid (show ls.take ls.length=ls from List.take_of_length_le (Nat.le_refl _));rw [HT.out] at hown;have hall:=HA.out;rw [HT.out] at hall;have HL:=hid hall;clear hall HA hlt;go_wp2_with fail
   go_loopw [11,35] (fun _ i w2=>∃ k:Nat,k<=ls.length/\i=.int .i64 k/\(ls.take k).all (fun s=>decide ((mg s).length<=4096))=true/\OR w2 w.heap.size 212 2 A2 ls.length c2 (nC ls)/\Below w.heap.size w w2) (fun _ i _=>ls.length - (intOf i).toNat)
   case atStart=>exact ⟨0,Nat.zero_le _,rfl,rfl,hown,hbel⟩
   case round =>
    obtain ⟨k,hk2,rfl,hall,hown2,hbel2⟩:=hrel;have HA:=hid hall;clear hall hown hbel;by_cases hlt:k<ls.length
    ·obtain ⟨g,rfl,hg1,hg2,hgc,hgf⟩:=hown2.at_ h0
     have hcg:=numCells_get ls k hlt;have c0:=(hgc (k*2) (by omega)).trans hcg.1;have c1:=(hgc (k*2+1) (by omega)).trans hcg.2;have hm:=Nat.le_trans (Ml _) (HS.out (ls.getD k []) (by rw [List.getD_eq_getElem?_getD,List.getElem?_eq_getElem hlt];exact List.getElem_mem hlt))
     have HT2:=hid (show ls.take (k+1)=ls.take k ++ [ls.getD k []] by rw [List.take_succ_eq_append_getElem hlt];simp [hlt])
     have HB:=hid (show 4096<(mg (ls.getD k [])).length->errL ls=4 from fun h=>by
      have h1:ls.all (fun s=>decide ((mg s).length<=4096))=false:=by
       rw [List.all_eq_false];exact ⟨ls.getD k [],by rw [List.getD_eq_getElem?_getD,List.getElem?_eq_getElem hlt];exact List.getElem_mem hlt,by simpa using h⟩
      unfold errL;rw [if_pos HL.out,h1];rfl)
     generalize ls.getD k []=s at *;unfold maxLen at hm;clear hgc hcg hgf;by_cases h4:4096<(mg s).length
     ·have HR:=hid (HB.out h4)
      have h4':(4096:Int)<((mg s).length:Int):=by omega
      go_wp2_with fail;go_ret2;exact .inr ⟨by rw [HR.out];decide,by rw [HR.out];rfl,hbel2.alloc hbel2.size _⟩
     ·have h4':¬ (4096:Int)<((mg s).length:Int):=by omega
      have HR:=hid (show (ls.take (k+1)).all (fun s=>decide ((mg s).length<=4096))=true by rw [HT2.out,List.all_append,HA.out];simp;omega);go_wp2_with fail;go_roundw
      case rel=>exact ⟨k+1,by omega,by go_num,HR.out,hown2.alloc _,hbel2.alloc hbel2.size _⟩
      case measure=>simp [intOf];omega
    ·obtain rfl:k=ls.length:=by omega
     have HR:=hid (show errL ls=0 by
      have:=HA.out;rw [HT.out] at this;unfold errL;rw [if_pos HL.out,if_pos this])
     go_wp2_with fail;go_ret2;exact .inl ⟨HR.out,A2,c2,rfl,hown2,hbel2⟩
end Go.Proofs.YtjcekdiocliddaaGreatDoor

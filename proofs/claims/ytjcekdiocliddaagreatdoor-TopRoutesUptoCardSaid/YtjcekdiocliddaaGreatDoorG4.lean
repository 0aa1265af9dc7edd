/- nat.read, nat.number.limb. -/
import Derived.Test.YtjcekdiocliddaaGreatDoorG1
import Derived.Deep.QuietTactic
import Derived.BigQuiet
namespace Go.Proofs.YtjcekdiocliddaaGreatDoor
open Lib (hid)
open Go.RowKit Num
set_option linter.unusedVariables false
attribute [local go_sem] BS Bg Bt Bm Be
attribute [local go_sem high] rm
theorem La (xs:List Nat) (A:Option Addr) (c k:Nat) (w:World) (hk:k<=9000000000000000000) (hl:xs.length<=c) (hm:c<=maxLen) (hc:Cs w A (Ns xs)) :
  Calls Tryz.prog 182 #[.slice A xs.length c,.int .i64 k] w fun e w'=>e=.returned (.int .i64 (aN xs k:Int))/\w'=w:=by
 unfold maxLen at hm;by_cases h:k<xs.length
 ·obtain ⟨b,off,rfl,hb,hcell⟩:=hc (by rw [nL];omega)
  have h1:=Cs.num hcell k h;clear hcell hc;go_enter Tryz.func182,Tryz.ntmps182;go_wp2
  go_ret;exact ⟨rfl,rfl⟩
 ·have h0:=hid (show aN xs k=0 by simp [aN];rw [List.getElem?_eq_none (by omega)];rfl)
  clear hc;go_enter Tryz.func182,Tryz.ntmps182;go_wp2
  go_ret;exact ⟨ri (by rw [h0.out];rfl),rfl⟩
theorem read_step (l t:List UInt8) (ys:List Nat) (ht:t=l.take t.length) (hm0:0<t.length) (h:l.all iD=true) (hy:lS ys) (hv:val l=val t*1000000000 ^ ys.length+lv ys) :
  lS (ys ++ [seg t (t.length - 9) t.length])/\val l=val (t.take (t.length - 9))*1000000000 ^ (ys ++ [seg t (t.length - 9) t.length]).length+lv (ys ++ [seg t (t.length - 9) t.length]):=by
 have hta:t.all iD=true:=by rw [ht];have:=all_sub h 0 t.length;simpa using this
 generalize hm:t.length=m at *;have h1:=seg_lt t (m - 9) m hta (by omega);refine ⟨Ce.2 ⟨hy,fun x hx=>by simp at hx;rw [hx];exact h1⟩,?_⟩;have h2:=val_split t (m - 9) (by omega);rw [hm] at h2;rw [hv,h2,lA,List.length_append,List.length_cons,List.length_nil,Nat.pow_succ];have h4:lv [seg t (m - 9) m]=seg t (m - 9) m:=by simp [lv]
 rw [h4];by_cases h9:9<=m
 ·rw [show m - (m - 9)=9 by omega,Nat.add_mul,Nat.mul_assoc,show (10:Nat) ^ 9=1000000000 from rfl,Nat.mul_comm 1000000000 (1000000000 ^ ys.length),Nat.mul_comm (seg t (m - 9) m)]
  omega
 ·have h5:m - 9=0:=by omega
  rw [h5];simp [val];rw [Nat.mul_comm];omega
set_option maxHeartbeats 400000 in
theorem read_any (l:List UInt8) (w:World) (hl:l.length<=1000000000) (hd:l.all iD=true) :
  Calls Tryz.prog 193 #[.string (B l)] w fun e w'=>∃ A c,e=.returned (.slice A (nl (val l)).length c)/\(nl (val l)).length<=c/\c<=maxLen/\Cs w' A (Ns (nl (val l)))/\Below w.heap.size w w':=by
 go_enter Tryz.func193,Tryz.ntmps193;go_wp2
 go_loopw [0,3] (fun s v wr=>∃ (t:List UInt8) (ys:List Nat) (A:Option Addr) (c:Nat),s=.string (B t)/\v=.slice A ys.length c/\OS wr w.heap.size 3 A ys.length c (Ns ys) /\
   lS ys/\t=l.take t.length/\val l=val t*1000000000 ^ ys.length+lv ys/\ys.length+t.length<=l.length/\Below w.heap.size w wr)
  (fun s _ _=>match s with | .string s=>s.size | _=>0)
 case atStart =>
  exact ⟨l,[],none,0,rfl,rfl,OS.nil _ _ _,Ll,by simp,by simp [lv],by simp,Below.refl _ _⟩
 case round =>
  obtain ⟨t,ys,A,c,rfl,rfl,hown,hy,ht,hv,hsz,hbel⟩:=hrel;by_cases hm0:t=[]
  ·have HV:=hid hv
   subst hm0;clear hv ht;go_wp2_with fail;have hval:val l=lv ys:=by rw [HV.out];simp [val]
   rw [show (ys.length:Nat)=ys.length from rfl];refine (trim_any ys A c wr hy hown.cap.1 hown.cap.2 hown.cells).mono ?_;rintro e w' ⟨rfl,rfl⟩;go_wp2_with fail;go_ret;have hc:=hown.cells.take (nl (lv ys)).length;have ht:=Dd ys hy;refine ⟨A,c,Rs (by rw [hval]),?_,hown.cap.2,?_,hbel⟩
   ·have:=congrArg List.length ht
    rw [List.length_take] at this;have:=hown.cap.1;rw [hval];omega
   ·rw [hval,<- ht]
    unfold Ns at hc ⊢;rw [<- List.map_take] at hc;exact hc
  ·have hm1:0<t.length:=List.length_pos_iff.2 hm0
   have HS:=hid (read_step l t ys ht hm1 hd hy hv);have hta:t.all iD=true:=by rw [ht];have:=all_sub hd 0 t.length;simpa using this
   have HT:=hid ht;have HTA:=hid hta;clear hv ht hm0 hta;have hmx:imax 0 ((t.length:Int) - 9)=((t.length - 9:Nat):Int):=by rw [imax_pos];omega
   go_wp2_with fail;go_loop [5,6] (fun x i=>∃ k:Nat,t.length - 9<=k/\k<=t.length/\i=.int .i64 k/\x=.int .i64 (seg t (t.length - 9) k:Nat)) (fun _ i=>t.length - (intOf i).toNat)
   case atStart=>exact ⟨t.length - 9,Nat.le_refl _,by omega,rfl,by rw [seg_self];rfl⟩
   case round =>
    obtain ⟨k,hk1,hk2,rfl,rfl⟩:=hrel;by_cases hlt:k<t.length
    ·have HX:=hid (seg_succ t (t.length - 9) k hk1 hlt)
     have hdg:=dig_of_all HTA.out hlt;have hsg:=seg_lt t (t.length - 9) k HTA.out (by omega);have hd1:48<=((at8 t k).toNat:Int):=by omega
     have hd2:((at8 t k).toNat:Int)<=57:=by omega
     have hs1:(0:Int)<=(seg t (t.length - 9) k:Int):=by omega
     have hs2:(seg t (t.length - 9) k:Int)<=999999999:=by omega
     clear hdg hsg;go_wp2_with fail;go_round
     case rel=>exact ⟨k+1,by omega,by omega,by go_num,by rw [HX.out];unfold dv;go_num⟩
     case measure=>simp [intOf];omega
    ·obtain rfl:k=t.length:=by omega
     go_wp2_with (at_builtin;refine W1 en rfl _ _ rfl w.heap.size _ _ _ _ _ _ rfl hown rfl rfl (by unfold maxLen;omega) (by omega) hbel.size ?_;intro A' c' w1 hown1 hb1)
     go_roundw
     case rel =>
      have hs:=HS.out;refine ⟨t.take (t.length - 9),ys ++ [seg t (t.length - 9) t.length],A',c',rfl,by simp,by simpa [Ns] using hown1,hs.1,?_,hs.2,by simp;omega,hbel.trans hb1⟩;have e:t.take (t.length - 9)=(l.take t.length).take (t.length - 9):=by rw [<- HT.out]
      rw [List.length_take,Nat.min_eq_left (by omega),e,List.take_take];congr 1
      omega
     case measure=>simp [BS];omega
theorem lv_cut (xs:List Nat) (k:Nat) (hk:k<xs.length):lv xs=lv (xs.take k)+1000000000 ^ k*(aN xs k+1000000000*lv (xs.drop (k+1))):=by
 have h:=lA (xs.take k) (xs.drop k);rw [List.take_append_drop,List.length_take,Nat.min_eq_left (by omega),List.drop_eq_getElem_cons hk,lv] at h;rw [h];simp [aN,hk]
theorem cmp_limb (xs ys:List Nat) (k:Nat) (hx:lS xs) (hy:lS ys) (hl:xs.length=ys.length) (hk:k<xs.length) (hd:xs.drop (k+1)=ys.drop (k+1)) (hne:aN xs k≠aN ys k) :
  cI (lv xs:Int) (lv ys:Int)=cI (aN xs k:Int) (aN ys k:Int):=by
 rw [CI,CI,lv_cut xs k hk,lv_cut ys k (by omega),hd]
 have h1:lv (xs.take k)<1000000000 ^ k:=by
  have:=lv_lt (xs.take k) (fun x h=>hx x (List.mem_of_mem_take h));rwa [List.length_take,Nat.min_eq_left (by omega)] at this
 have h2:lv (ys.take k)<1000000000 ^ k:=by
  have:=lv_lt (ys.take k) (fun x h=>hy x (List.mem_of_mem_take h));rwa [List.length_take,Nat.min_eq_left (by omega)] at this
 generalize lv (ys.drop (k+1))=r;rw [Nat.mul_add,Nat.mul_add];generalize 1000000000 ^ k*(1000000000*r)=q;rcases Nat.lt_or_gt_of_ne hne with h | h
 ·have:=Nat.mul_le_mul_left (1000000000 ^ k) (show aN xs k+1<=aN ys k by omega)
  rw [Nat.mul_add] at this;rw [if_pos (by omega),if_pos h]
 ·have:=Nat.mul_le_mul_left (1000000000 ^ k) (show aN ys k+1<=aN xs k by omega)
  rw [Nat.mul_add] at this;rw [if_neg (by omega),if_pos (by omega),if_neg (by omega),if_pos h]
theorem cmp_len (a b:Nat) (h:(nl a).length≠(nl b).length):cI ((nl a).length:Int) ((nl b).length:Int)=cI (a:Int) (b:Int):=by
 rw [CI,CI];rcases Nat.lt_or_gt_of_ne h with h | h
 ·have:a<b:=by
   rcases Nat.lt_or_ge a b with h' | h'
   ·exact h'
   ·have:=nm h';omega
  rw [if_pos h,if_pos this]
 ·have:b<a:=by
   rcases Nat.lt_or_ge b a with h' | h'
   ·exact h'
   ·have:=nm h';omega
  rw [if_neg (by omega),if_pos h,if_neg (by omega),if_pos this]
set_option maxHeartbeats 400000 in
theorem ncompare_loop (xs ys:List Nat) (b off c b' off' c':Nat) (w:World) (hx:lS xs) (hy:lS ys) (hl:xs.length=ys.length) (hm:xs.length<=1000000000)
  (hc:∀ j,j<xs.length->w.cell? ⟨b,off+j,none⟩=some (.int .i64 (aN xs j:Int))) (hc':∀ j,j<ys.length->w.cell? ⟨b',off' + j,none⟩=some (.int .i64 (aN ys j:Int))) :
  Calls Tryz.prog 184 #[.slice (some ⟨b,off,none⟩) xs.length c,.slice (some ⟨b',off',none⟩) ys.length c'] w fun e w'=>e=.returned (.int .i64 (cI (lv xs:Int) (lv ys:Int)))/\Below w.heap.size w w':=by
 have e1:((xs.length:Int) != ys.length)=false:=by rw [hl];simp
 rw [<- hl] at hc' e1 ⊢;have HL:=hid hl;clear hl;go_enter Tryz.func184,Tryz.ntmps184;go_wp2
 go_loopw [5] (fun i wr=>∃ k:Nat,k<=xs.length/\i=.int .i64 ((k:Int) - 1)/\xs.drop k=ys.drop k/\Below w.heap.size w wr/\∀ p,wr.cell? p=w.cell? p) (fun i _=>(intOf i+1).toNat)
 case atStart=>exact ⟨xs.length,Nat.le_refl _,rfl,by rw [List.drop_of_length_le (Nat.le_refl _),List.drop_of_length_le (by rw [HL.out];exact Nat.le_refl _)],Below.refl _ _,fun _=>rfl⟩
 case round =>
  obtain ⟨k,hk,rfl,hd,hbel,hcl⟩:=hrel;have HD:=hid hd;clear hd;by_cases h0:k=0
  ·subst h0
   clear hcl hc hc';go_wp2_with fail;go_ret;have:xs=ys:=by have:=HD.out;simpa using this
   exact ⟨ri (by rw [this,cmpI_eq rfl]),hbel⟩
  ·obtain ⟨j,rfl⟩:∃ j,k=j+1:=⟨k - 1,by omega⟩
   rw [show ((j+1:Nat):Int) - 1=(j:Int) from by omega];have g1:wr.cell? ⟨b,off+j,none⟩=some (.int .i64 (aN xs j:Int)):=by rw [hcl];exact hc j (by omega)
   have g2:wr.cell? ⟨b',off' + j,none⟩=some (.int .i64 (aN ys j:Int)):=by rw [hcl];exact hc' j (by omega)
   have HC:=hid hcl;clear hcl hc hc' h0;by_cases hne:aN xs j=aN ys j
   ·have HE:=hid hne
    have ht:((aN xs j:Int) != (aN ys j:Int))=false:=by rw [hne];simp
    clear hne;go_wp2
    go_region
    go_wp2
    go_roundw
    case rel =>
     refine ⟨j,by omega,rfl,?_,hbel.drew,fun p=>HC.out p⟩;have h1:j<xs.length:=by omega
     have h2:j<ys.length:=by have:=HL.out;omega
     rw [List.drop_eq_getElem_cons h1,List.drop_eq_getElem_cons h2,HD.out];have:=HE.out;simp only [aN,List.getD_eq_getElem?_getD,List.getElem?_eq_getElem h1,List.getElem?_eq_getElem h2,Option.getD_some] at this;rw [this]
    case measure=>simp [intOf]
   ·have ht:((aN xs j:Int) != (aN ys j:Int))=true:=by rw [bne_iff_ne];omega
    have HN:=hid (cmp_limb xs ys j hx hy HL.out (by omega) HD.out hne);clear hne;go_wp2
    go_region
    go_wp2_with fail;have k1:wr.drew.cell? ⟨b,off+j,none⟩=some (.int .i64 (aN xs j:Int)):=g1;have k2:wr.drew.cell? ⟨b',off' + j,none⟩=some (.int .i64 (aN ys j:Int)):=g2;have kb:=hbel.drew;clear g1 g2 hbel HC;generalize wr.drew=w2 at *;go_quiet ((go_at_call 189;exact Calls.quiet_of_same (Ci _ _ _)))
    go_wp2_with fail;go_ret;exact ⟨ri HN.out.symm,below_drewN kb _⟩
theorem ny (a b:Nat) (A A':Option Addr) (c c':Nat) (w:World) (hla:(nl a).length<=1000000000) (hlb:(nl b).length<=1000000000) (hc:Cs w A (Ns (nl a))) (hc':Cs w A' (Ns (nl b))) :
  Calls Tryz.prog 184 #[.slice A (nl a).length c,.slice A' (nl b).length c'] w fun e w'=>e=.returned (.int .i64 (cI (a:Int) (b:Int)))/\Below w.heap.size w w':=by
 by_cases hl:(nl a).length=(nl b).length
 ·by_cases h0:(nl a).length=0
  ·have ha:a=0:=Aj.1 (List.eq_nil_of_length_eq_zero h0)
   have hb:b=0:=Aj.1 (List.eq_nil_of_length_eq_zero (by omega));subst ha;subst hb;rw [h0];have e1:((0:Int) != 0)=false:=by decide
   clear hl h0 hc hc' hla hlb;go_enter Tryz.func184,Tryz.ntmps184;go_wp2
   go_loop [5] (fun i=>i=.int .i64 (-1)) (fun _=>0)
   case atStart=>rfl
   case round =>
    subst hrel;go_wp2
    go_ret;exact ⟨ri (by rw [cmpI_eq rfl]),Below.refl _ _⟩
  ·obtain ⟨bl,off,rfl,hb,h⟩:=hc (by rw [nL];omega)
   obtain ⟨bl',off',rfl,hb',h'⟩:=hc' (by rw [nL];omega);have:=ncompare_loop (nl a) (nl b) bl off c bl' off' c' w (ln a) (ln b) hl hla (Cs.num h) (Cs.num h');rw [lN,lN] at this;exact this
 ·have HN:=hid (cmp_len a b hl)
  have e1:(((nl a).length:Int) != (nl b).length)=true:=by rw [bne_iff_ne];omega
  clear hl hc hc';go_enter Tryz.func184,Tryz.ntmps184;go_wp2_with fail;refine (Ci _ _ _).mono ?_;rintro e w' ⟨rfl,rfl⟩;go_wp2_with fail;go_ret;exact ⟨ri HN.out,Below.refl _ _⟩
def eT (a b:List UInt8):Int:=if right a=true/\right b=true then (if a.length<=4096/\b.length<=4096 then 0 else 4) else 3
theorem ez {a b:List UInt8}:eT a b=0↔right a=true/\right b=true/\a.length<=4096/\b.length<=4096:=by
 unfold eT;by_cases h:right a=true/\right b=true
 ·rw [if_pos h]
  by_cases h2:a.length<=4096/\b.length<=4096
  ·rw [if_pos h2];exact ⟨fun _=>⟨h.1,h.2,h2⟩,fun _=>rfl⟩
  ·rw [if_neg h2];exact ⟨(fun h=>by cases h),fun h'=>absurd h'.2.2 h2⟩
 ·rw [if_neg h];exact ⟨(fun h=>by cases h),fun h'=>absurd ⟨h'.1,h'.2.1⟩ h⟩
theorem ed {p q:Nat} (hp:(dec p).length<=4096) (hq:(dec q).length<=4096):eT (dec p) (dec q)=0:=ez.2 ⟨rd p,rd q,hp,hq⟩
theorem te (a b:List UInt8) (w:World) (ha:a.length<=maxLen) (hb:b.length<=maxLen) (he:eT a b≠0) :
  Calls Tryz.prog 175 #[.string (B a),.string (B b)] w fun e w'=>e=.returned (.tuple #[.slice none 0 0,.slice none 0 0,.int .i64 (eT a b)])/\w'=w:=by
 cases h1:right a
 ·have HR:=hid (show eT a b=3 by rw [eT,if_neg (by simp [h1])])
  clear he;go_enter Tryz.func175,Tryz.ntmps175;go_wp2_with fail;refine (ra _ _ ha).mono ?_;rintro e w' ⟨rfl,rfl⟩;go_wp2_with fail;go_ret3;exact ⟨by rw [HR.out];rfl,rfl⟩
 ·cases h2:right b
  ·have HR:=hid (show eT a b=3 by rw [eT,if_neg (by simp [h2])])
   clear he;go_enter Tryz.func175,Tryz.ntmps175;go_wp2_with fail;refine (ra _ _ ha).mono ?_;rintro e w' ⟨rfl,rfl⟩;go_wp2_with fail;refine (ra _ _ hb).mono ?_;rintro e w' ⟨rfl,rfl⟩;go_wp2_with fail;go_ret3;exact ⟨by rw [HR.out];rfl,rfl⟩
  ·have h3:¬ (a.length<=4096/\b.length<=4096):=fun h=>he (ez.2 ⟨h1,h2,h⟩)
   have HR:=hid (show eT a b=4 by rw [eT,if_pos ⟨h1,h2⟩,if_neg h3]);unfold maxLen at ha hb;by_cases h4:4096<a.length
   ·clear he h3
    go_enter Tryz.func175,Tryz.ntmps175;go_wp2_with fail;refine (ra _ _ ha).mono ?_;rintro e w' ⟨rfl,rfl⟩;go_wp2_with fail;refine (ra _ _ hb).mono ?_;rintro e w' ⟨rfl,rfl⟩;go_wp2_with fail;go_ret3;exact ⟨by rw [HR.out];rfl,rfl⟩
   ·have h5:4096<b.length:=by omega
    clear he h3;go_enter Tryz.func175,Tryz.ntmps175;go_wp2_with fail;refine (ra _ _ ha).mono ?_;rintro e w' ⟨rfl,rfl⟩;go_wp2_with fail;refine (ra _ _ hb).mono ?_;rintro e w' ⟨rfl,rfl⟩;go_wp2_with fail;go_ret3;exact ⟨by rw [HR.out];rfl,rfl⟩
structure Nt (w:World) (A:Option Addr) (c n:Nat):Prop where
 cells:Cs w A (Ns (nl n))
 le:(nl n).length<=c
 cap:c<=maxLen
theorem Nt.below {w w':World} {A:Option Addr} {c n:Nat} (h:Nt w A c n) (hb:Below w.heap.size w w'):Nt w' A c n:=⟨h.cells.below hb,h.le,h.cap⟩
theorem To (a b:List UInt8) (w:World) (h1:right a=true) (h2:right b=true) (ha:a.length<=4096) (hb:b.length<=4096) :
  Calls Tryz.prog 175 #[.string (B a),.string (B b)] w fun e w'=>∃ A c A' c',e=.returned (.tuple #[.slice A (nl (val a)).length c,.slice A' (nl (val b)).length c',.int .i64 0]) /\
   Nt w' A c (val a)/\Nt w' A' c' (val b)/\Below w.heap.size w w':=by
 have ha':a.length<=maxLen:=by unfold maxLen;omega
 have hb':b.length<=maxLen:=by unfold maxLen;omega
 go_enter Tryz.func175,Tryz.ntmps175;go_wp2_with fail;refine (ra _ _ ha').mono ?_;rintro e w' ⟨rfl,rfl⟩;go_wp2_with fail;refine (ra _ _ hb').mono ?_;rintro e w' ⟨rfl,rfl⟩;go_wp2_with fail;refine (read_any a _ (by omega) (Bh h1)).mono ?_;rintro e w1 ⟨A,c,rfl,hl1,hc1,hA,hb1⟩;go_wp2_with fail;refine (read_any b _ (by omega) (Bh h2)).mono ?_
 rintro e w2 ⟨A',c',rfl,hl2,hc2,hA',hb2⟩;go_wp2_with fail;go_ret3;exact ⟨A,c,A',c',rfl,⟨hA.below hb2,hl1,hc1⟩,⟨hA',hl2,hc2⟩,hb1.trans (hb2.mono hb1.size)⟩
end Go.Proofs.YtjcekdiocliddaaGreatDoor
namespace Go.Proofs.YtjcekdiocliddaaGreatDoor
open Lib (hid)
open Num
theorem AN {xs:List Nat} (h:lS xs) (k:Nat):aN xs k<1000000000:=by
 unfold aN;rw [List.getD_eq_getElem?_getD]
 cases hk:xs[k]? with
 |none=>simp
 |some x=>exact h x (List.mem_of_getElem? hk)
theorem atN_ge {xs:List Nat} {k:Nat} (h:xs.length<=k):aN xs k=0:=by
 unfold aN;rw [List.getD_eq_getElem?_getD,List.getElem?_eq_none h];rfl
theorem lT (xs:List Nat) (k:Nat):lv (xs.take (k+1))=lv (xs.take k)+1000000000 ^ k*aN xs k:=by
 by_cases h:k<xs.length
 ·rw [List.take_succ_eq_append_getElem h,lA,List.length_take,Nat.min_eq_left (by omega)]
  simp [lv,aN,h]
 ·rw [List.take_of_length_le (by omega),List.take_of_length_le (by omega),atN_ge (by omega)];simp
theorem Cd (ys:List Nat) (x:Nat):lv (ys ++ [x])=lv ys+1000000000 ^ ys.length*x:=by
 rw [lA];simp [lv]
theorem Lc {ys:List Nat} {x:Nat} (h:lS ys) (hx:x<1000000000):lS (ys ++ [x]) :=
 Ce.2 ⟨h,fun y hy=>by simp at hy;rw [hy];exact hx⟩
theorem Nc (ys:List Nat) (x:Nat):Ns (ys ++ [x])=Ns ys ++ [.int .i64 (x:Int)]:=by simp [Ns]
theorem times_step (xs ys:List Nat) (k m carry:Nat) (hy:ys.length=k) (h:lv ys+1000000000 ^ k*carry=lv (xs.take k)*m) :
  lv (ys ++ [(aN xs k*m+carry) % 1000000000])+1000000000 ^ (k+1)*((aN xs k*m+carry) / 1000000000)=lv (xs.take (k+1))*m:=by
 rw [Cd,hy,lT,Nat.add_mul,<- h,Nat.pow_succ];generalize hn:aN xs k*m+carry=n
 have:1000000000 ^ k*(n % 1000000000)+1000000000 ^ k*1000000000*(n / 1000000000)=1000000000 ^ k*n:=by
  rw [Nat.mul_assoc,<- Nat.mul_add];congr 1;omega
 rw [Nat.add_assoc,this,<- hn,Nat.mul_add,Nat.mul_assoc];omega
theorem carry_lt (x m carry:Nat) (hx:x<1000000000) (hm:m<1000000000) (hc:carry<1000000000):x*m+carry<=999999999000000000/\(x*m+carry) / 1000000000<1000000000:=by
 have:x*m<=999999999*999999999:=Nat.mul_le_mul (by omega) (by omega);omega
theorem nl_of_len (ys:List Nat) (hy:lS ys) (h:ys.length<=(nl (lv ys)).length):nl (lv ys)=ys:=by
 have:=Dd ys hy;rw [<- this,List.take_of_length_le h]
theorem nl_len_ge {n k:Nat} (h:1000000000 ^ k<=n):k+1<=(nl n).length:=by
 rcases Nat.lt_or_ge k (nl n).length with h1 | h1
 ·exact h1
 ·have:=nE.1 h1;omega
theorem Pl {n:Nat} (h:0<(nl n).length):1000000000 ^ ((nl n).length - 1)<=n:=by
 rcases Nat.lt_or_ge n (1000000000 ^ ((nl n).length - 1)) with h1 | h1
 ·have:=nE.2 h1;omega
 ·exact h1
theorem add_step (xs ys zs:List Nat) (k carry:Nat) (hz:zs.length=k) (h:lv zs+1000000000 ^ k*carry=lv (xs.take k)+lv (ys.take k)) :
  lv (zs ++ [(aN xs k+aN ys k+carry) % 1000000000])+1000000000 ^ (k+1)*((aN xs k+aN ys k+carry) / 1000000000)=lv (xs.take (k+1))+lv (ys.take (k+1)):=by
 rw [Cd,hz,lT,lT,Nat.pow_succ];generalize hn:aN xs k+aN ys k+carry=n
 have:1000000000 ^ k*(n % 1000000000)+1000000000 ^ k*1000000000*(n / 1000000000)=1000000000 ^ k*n:=by
  rw [Nat.mul_assoc,<- Nat.mul_add];congr 1;omega
 rw [Nat.add_assoc,this,<- hn,Nat.mul_add,Nat.mul_add];omega
theorem sub_step (xs ys zs:List Nat) (k borrow d borrow':Nat) (hz:zs.length=k) (h:lv zs+lv (ys.take k)=lv (xs.take k)+1000000000 ^ k*borrow)
  (hd:d+aN ys k+borrow=aN xs k+1000000000*borrow') :
  lv (zs ++ [d])+lv (ys.take (k+1))=lv (xs.take (k+1))+1000000000 ^ (k+1)*borrow':=by
 rw [Cd,hz,lT,lT,Nat.pow_succ,Nat.mul_assoc];have:=congrArg (1000000000 ^ k * ·) hd;simp only [Nat.mul_add] at this;omega
theorem lv_set (zs:List Nat) (j u:Nat) (hj:j<zs.length):lv (zs.set j u)+1000000000 ^ j*aN zs j=lv zs+1000000000 ^ j*u:=by
 have h1:=lA (zs.take j) (zs.drop j);rw [List.take_append_drop,List.length_take,Nat.min_eq_left (by omega),List.drop_eq_getElem_cons hj,lv] at h1;rw [List.set_eq_take_append_cons_drop,if_pos hj,lA,List.length_take,Nat.min_eq_left (by omega),lv,h1];have:aN zs j=zs[j]:=by simp [aN,hj]
 rw [this];simp only [Nat.mul_add];omega
theorem Bi {zs:List Nat} {j u:Nat} (h:lS zs) (hu:u<1000000000):lS (zs.set j u):=by
 intro x hx;rcases List.mem_or_eq_of_mem_set hx with h1 | h1
 ·exact h x h1
 ·omega
theorem Ch (zs:List Nat) (j u i:Nat) (hj:j<zs.length):aN (zs.set j u) i=if i=j then u else aN zs i:=by
 unfold aN;simp only [List.getD_eq_getElem?_getD,List.getElem?_set];by_cases h:j=i
 ·subst h;simp [hj]
 ·rw [if_neg h,if_neg (fun e=>h e.symm)]
theorem nu (zs:List Nat) (j u:Nat):Ns (zs.set j u)=(Ns zs).set j (.int .i64 (u:Int)):=by simp [Ns,List.map_set]
theorem lv_replicate (n:Nat):lv (List.replicate n 0)=0:=by
 induction n with
 |zero=>rfl
 |succ n ih=>rw [List.replicate_succ,lv,ih]
theorem Lr (n:Nat):lS (List.replicate n 0):=fun x hx=>by rw [List.eq_of_mem_replicate hx];decide
theorem Nr (n:Nat):Ns (List.replicate n 0)=List.replicate n (.int .i64 0):=by simp [Ns]
theorem ae (n j:Nat):aN (List.replicate n 0) j=0:=by
 unfold aN;rw [List.getD_eq_getElem?_getD,List.getElem?_replicate];split <;> rfl
end Go.Proofs.YtjcekdiocliddaaGreatDoor
namespace Go.Proofs.YtjcekdiocliddaaGreatDoor
open Lib (hid)
open Go.RowKit Num
set_option linter.unusedVariables false
attribute [local go_sem] BS Bg Bt Bm Be
attribute [local go_sem high] rm
theorem Tn (xs:List Nat) (v:Nat) (A:Option Addr) (n c:Nat) (w:World) (hx:lS xs) (hv:lv xs=v) (hn:xs.length=n) (hl:n<=c) (hm:c<=maxLen) (hc:Cs w A (Ns xs)) :
  Calls Tryz.prog 192 #[.slice A n c] w fun e w'=>e=.returned (.slice A (nl v).length c)/\Nt w A c v/\w'=w:=by
 subst hv;subst hn;refine (trim_any xs A c w hx hl hm hc).mono fun e w' ⟨he,hw⟩=>⟨he,?_,hw⟩
 have h1:=Dd xs hx;have h2:=congrArg List.length h1;rw [List.length_take] at h2;refine ⟨?_,by omega,hm⟩;have:=hc.take (nl (lv xs)).length;unfold Ns at this ⊢;rw [<- List.map_take,h1] at this;exact this
set_option maxHeartbeats 400000 in
theorem times_any (a m:Nat) (A:Option Addr) (c:Nat) (w:World) (hA:Nt w A c a) (hla:(nl a).length<=1000000) (hm:m<1000000000) :
  Calls Tryz.prog 195 #[.slice A (nl a).length c,.int .i64 m] w fun e w'=>∃ A' c',e=.returned (.slice A' (nl (a*m)).length c')/\Nt w' A' c' (a*m)/\Below w.heap.size w w':=by
 obtain ⟨hcells,hle,hcap⟩:=hA;have hx:=ln a;have hxv:=hid (lN a);generalize nl a=xs at *;go_enter Tryz.func195,Tryz.ntmps195;go_wp2_with (refine wp_mk0 en rfl _ _ rfl w.heap.size _ .i64 .i64 _ (xs.length+1) rfl rfl (by go_num) (by omega) (by unfold maxLen;omega) (Nat.le_refl _) ?_;intro A0 w0 hown0 hb0)
 go_loopw [5,6,8,15] (fun v cr _ i wr=>∃ (k:Nat) (ys:List Nat) (A':Option Addr) (c' carry:Nat),k<=xs.length/\i=.int .i64 k/\v=.slice A' k c'/\cr=.int .i64 carry/\OS wr w.heap.size 3 A' k c' (Ns ys) /\
   ys.length=k/\lS ys/\carry<1000000000/\lv ys+1000000000 ^ k*carry=lv (xs.take k)*m/\Below w.heap.size w wr)
  (fun _ _ _ i _=>xs.length - (intOf i).toNat)
 case atStart=>exact ⟨0,[],A0,xs.length+1,0,Nat.zero_le _,rfl,rfl,rfl,hown0,rfl,Ll,by omega,by simp [lv],hb0⟩
 case round =>
  obtain ⟨k,ys,A',c',carry,hk,rfl,rfl,rfl,hown,hyl,hy,hcr,hv,hbel⟩:=hrel;by_cases hlt:k<xs.length
  ·have HS:=hid (times_step xs ys k m carry hyl hv)
   have HY:=hid hyl;have hxk:=AN hx k;have hcl:=carry_lt _ m carry hxk hm hcr;obtain ⟨b,off,rfl,hb,hcell⟩:=(hcells.below hbel) (by rw [nL];omega);have hck:=Cs.num hcell k hlt;have hq1:((aN xs k*m:Nat):Int)=(aN xs k:Int)*(m:Int):=Int.natCast_mul _ _;have hp1:0<=(aN xs k:Int)*(m:Int):=by rw [<- hq1];omega
   have hp2:(aN xs k:Int)*(m:Int)<=999999998000000001:=by
    rw [<- hq1];have:aN xs k*m<=999999999*999999999:=Nat.mul_le_mul (by omega) (by omega);omega
   have HQ:=hid hq1;have HC:=hid hcl;have HB:=hid hcell;clear hyl hv hq1 hcl hcell;go_wp2_with (at_builtin;refine W1 en rfl _ _ rfl w.heap.size _ _ _ _ _ _ rfl hown rfl rfl (by unfold maxLen;omega) (by omega) hbel.size ?_;intro A2 c2 w1 hown1 hb1)
   go_roundw
   case rel =>
    have hcl:=HC.out;refine ⟨k+1,ys ++ [(aN xs k*m+carry) % 1000000000],A2,c2,(aN xs k*m+carry) / 1000000000,by omega,by go_num,rfl,?_,?_,by simp [HY.out],Lc hy (by omega),hcl.2,HS.out,hbel.trans hb1⟩
    ·congr 1
    ·rw [Nc]
     have e:((((aN xs k*m+carry) % 1000000000:Nat)):Int)=((aN xs k:Int)*(m:Int)+carry) % 1000000000:=by rw [<- HQ.out];omega
     rw [e];exact hown1
   case measure=>simp [intOf];omega
  ·obtain rfl:k=xs.length:=by omega
   have hlast:lS (ys ++ [carry])/\lv (ys ++ [carry])=a*m:=by
    refine ⟨Lc hy hcr,?_⟩;rw [Cd,hyl,hv,List.take_of_length_le (Nat.le_refl _),hxv.out]
   have HL:=hid hlast.2;have HY:=hid hyl;have hl1:=hlast.1;clear hyl hv hlast;go_wp2_with (at_builtin;refine W1 en rfl _ _ rfl w.heap.size _ _ _ _ _ _ rfl hown rfl rfl (by unfold maxLen;omega) (by omega) hbel.size ?_;intro A2 c2 w1 hown1 hb1)
   refine (Tn (ys ++ [carry]) (a*m) A2 (xs.length+1) c2 _ hl1 HL.out (by simp [HY.out]) hown1.cap.1 hown1.cap.2 (by rw [Nc];exact hown1.cells)).mono ?_;rintro e w' ⟨rfl,hnum,rfl⟩;go_wp2_with fail;go_ret;exact ⟨A2,c2,rfl,hnum,hbel.trans hb1⟩
set_option maxHeartbeats 400000 in
theorem minus_any (a m:Nat) (A Am:Option Addr) (c cm:Nat) (w:World) (hA:Nt w A c a) (hM:Nt w Am cm m) (hla:(nl a).length<=1000000) (hma:m<=a) :
  Calls Tryz.prog 185 #[.slice A (nl a).length c,.slice Am (nl m).length cm] w fun e w'=>∃ A' c',e=.returned (.slice A' (nl (a - m)).length c')/\Nt w' A' c' (a - m)/\Below w.heap.size w w':=by
 obtain ⟨hcells,hle,hcap⟩:=hA;obtain ⟨hmc,hmle,hmcap⟩:=hM;have hx:=ln a;have hy:=ln m;have hlm:=nm hma;have hxv:=hid (lN a);have hyv:=hid (lN m);generalize nl a=xs at *;generalize nl m=us at *;go_enter Tryz.func185,Tryz.ntmps185
 go_wp2_with (refine wp_mk0 en rfl _ _ rfl w.heap.size _ .i64 .i64 _ xs.length rfl rfl rfl (by omega) (by unfold maxLen;omega) (Nat.le_refl _) ?_;intro A0 w0 hown0 hb0)
 go_loopw [5,6,7,8,14] (fun v cr _ _ i wr=>∃ (k:Nat) (ys:List Nat) (A':Option Addr) (c' borrow:Nat),k<=xs.length/\i=.int .i64 k/\v=.slice A' k c'/\cr=.int .i64 borrow/\OS wr w.heap.size 3 A' k c' (Ns ys) /\
   ys.length=k/\lS ys/\borrow<=1/\lv ys+lv (us.take k)=lv (xs.take k)+1000000000 ^ k*borrow/\Below w.heap.size w wr)
  (fun _ _ _ _ i _=>xs.length - (intOf i).toNat)
 case atStart=>exact ⟨0,[],A0,xs.length,0,Nat.zero_le _,rfl,rfl,rfl,hown0,rfl,Ll,by omega,by simp [lv],hb0⟩
 case round =>
  obtain ⟨k,ys,A',c',borrow,hk,rfl,rfl,rfl,hown,hyl,hyy,hcr,hv,hbel⟩:=hrel;by_cases hlt:k<xs.length
  ·have hxk:=AN hx k
   have hyk:=AN hy k;obtain ⟨b,off,rfl,hb,hcell⟩:=(hcells.below hbel) (by rw [nL];omega);have hck:=Cs.num hcell k hlt;have HB:=hid hcell;have hmw:=hmc.below hbel;have HY:=hid hyl;have HS:=hid (fun d borrow'=>sub_step xs us ys k borrow d borrow' hyl hv);clear hyl hv hcell;by_cases hneg:aN xs k<aN us k+borrow
   all_goals
    go_wp2_with fail;go_quiet ((go_at_call 182;exact Calls.quiet_of_same (La us Am cm k _ (by omega) hmle hmcap hmw)))
    have hown2:OS (wr.drewN ‹Nat›) w.heap.size 3 A' k c' (Ns ys):=hown;have hbel2:Below w.heap.size w (wr.drewN ‹Nat›):=below_drewN hbel _;clear hown hbel hmw hck hcells hmc hb0;generalize wr.drewN ‹Nat›=w2 at *
   ·have hn1:(aN xs k:Int) - (aN us k:Int) - (borrow:Int)<0:=by omega
    go_wp2_with (at_builtin;refine W1 en rfl _ _ rfl w.heap.size _ _ _ _ _ _ rfl hown2 rfl rfl (by unfold maxLen;omega) (by omega) hbel2.size ?_;intro A2 c2 w1 hown1 hb1)
    go_roundw
    case rel =>
     refine ⟨k+1,ys ++ [aN xs k+1000000000 - aN us k - borrow],A2,c2,1,by omega,by go_num,rfl,rfl,?_,by simp [HY.out],Lc hyy (by omega),by omega,HS.out _ 1 (by omega),hbel2.trans hb1⟩;rw [Nc];have e:((aN xs k+1000000000 - aN us k - borrow:Nat):Int)=(aN xs k:Int) - (aN us k:Int) - (borrow:Int)+1000000000:=by omega
     rw [e];exact hown1
    case measure=>simp [intOf];omega
   ·have hn1:0<=(aN xs k:Int) - (aN us k:Int) - (borrow:Int):=by omega
    go_wp2_with (at_builtin;refine W1 en rfl _ _ rfl w.heap.size _ _ _ _ _ _ rfl hown2 rfl rfl (by unfold maxLen;omega) (by omega) hbel2.size ?_;intro A2 c2 w1 hown1 hb1)
    go_roundw
    case rel =>
     refine ⟨k+1,ys ++ [aN xs k - aN us k - borrow],A2,c2,0,by omega,by go_num,rfl,rfl,?_,by simp [HY.out],Lc hyy (by omega),by omega,HS.out _ 0 (by omega),hbel2.trans hb1⟩;rw [Nc];have e:((aN xs k - aN us k - borrow:Nat):Int)=(aN xs k:Int) - (aN us k:Int) - (borrow:Int):=by omega
     rw [e];exact hown1
    case measure=>simp [intOf];omega
  ·obtain rfl:k=xs.length:=by omega
   have hres:lv ys=a - m:=by
    have h1:=hxv.out;have h2:=hyv.out;rw [List.take_of_length_le (Nat.le_refl _),List.take_of_length_le (by omega),h1,h2] at hv;have h3:=lv_lt ys hyy;rw [hyl] at h3;rcases Nat.lt_or_ge 0 borrow with hb | hb
    ·have:borrow=1:=by omega
     subst this;omega
    ·have:borrow=0:=by omega
     subst this;omega
   have HR:=hid hres;have HY:=hid hyl;clear hyl hv hres;go_wp2_with fail;refine (Tn ys (a - m) A' xs.length c' _ hyy HR.out HY.out hown.cap.1 hown.cap.2 hown.cells).mono ?_;rintro e w' ⟨rfl,hnum,rfl⟩;go_wp2_with fail;go_ret;exact ⟨A',c',rfl,hnum,hbel⟩
end Go.Proofs.YtjcekdiocliddaaGreatDoor

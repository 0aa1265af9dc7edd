/- The reference's Words, plain: lines read from the left. -/
import Derived.Test.YtljekdpgjaahjaaGreatDoorTRef
namespace Go.Proofs.YtljekdpgjaahjaaGreatDoor
open Num Txt
def wordAt (l:Str) (p n:Nat):Prop:=p≤n∧n≤l.length∧((l.take n).drop p).all wch=true∧(n<l.length→wch (at8 l n)=false)
theorem part_last {p:Str} (h:isPart p):p.getLast? ≠ some 32:=by
 rcases h with h | ⟨t,rfl⟩
 ·intro e
  unfold isWord at h
  simp only [Bool.and_eq_true,List.all_eq_true] at h
  have:=h.2 32 (List.mem_of_getLast? e)
  exact absurd this (by decide)
 ·unfold quote
  rw [List.getLast?_append]
  simp
theorem line_last {ps:List Str} (hp:∀ p ∈ ps,isPart p):(joinP ps).getLast? ≠ some 32:=by
 induction ps with
 |nil=>simp [joinP]
 |cons p r ih =>
  rw [joinP_cons]
  by_cases h:r=[]
  ·rw [if_pos h];exact part_last (hp p (by simp))
  ·rw [if_neg h]
   have hr:=joinP_ne h (fun q hq=>hp q (by simp [hq]))
   have h2:=ih (fun q hq=>hp q (by simp [hq]))
   cases hj:joinP r with
   |nil=>exact absurd hj hr
   |cons z zs =>
    rw [hj] at h2
    rw [List.getLast?_append,List.getLast?_cons_cons]
    simpa using h2
def rInv (l:Str) (k:Nat) (os:List Str):Prop:=(∀ p ∈ os,isPart p)∧k≤l.length∧((os=[]∧k=0)∨(os≠[]∧0<k∧at8 l (k - 1)=32∧l=joinP os ++ 32 :: l.drop k))
theorem rInv_start (l:Str):rInv l 0 []:=⟨by simp,by omega,.inl ⟨rfl,rfl⟩⟩
theorem rInv_line {l:Str} {k:Nat} {os ps:List Str} (h:rInv l k os) (hs:l≠[]) (hl:lineOK l ps):∃ p ps',lineOK (l.drop k) (p :: ps'):=by
 obtain ⟨ho,hk,⟨rfl,rfl⟩ | ⟨h1,_,_,h3⟩⟩:=h
 ·rw [List.drop_zero]
  cases ps with
  |nil=>exact absurd hl.2 hs
  |cons p ps=>exact ⟨p,ps,hl⟩
 ·by_cases he:l.drop k=[]
  ·rw [he] at h3
   have h4:=line_last hl.1
   rw [← hl.2,h3] at h4
   simp at h4
  ·have hl2:=hl
   rw [h3] at hl2
   obtain ⟨ps',h4,_,h6⟩:=line_split os ps (l.drop k) h1 he ho hl2
   cases ps' with
   |nil=>exact absurd rfl h4
   |cons p ps'=>exact ⟨p,ps',h6⟩
def greedy (p0 r:Str):Prop:=(∃ t,p0=quote t)∨(isWord p0=true∧(r=[]∨∃ c x,r=c :: x∧wch c=false))
theorem greedy_part {p0 r:Str} (h:greedy p0 r):isPart p0:=by
 rcases h with h | h
 ·exact .inr h
 ·exact .inl h.1
theorem word_prefix {a b:Str}:∀ {r x:Str},a.all wch=true→b.all wch=true→(r=[]∨∃ c y,r=c :: y∧wch c=false)→(x=[]∨∃ c y,x=c :: y∧wch c=false)→a ++ r=b ++ x→a=b:=by
 induction a generalizing b with
 |nil =>
  intro r x ha hb hr hx h
  cases b with
  |nil=>rfl
  |cons c b =>
   simp at hb
   rcases hr with rfl | ⟨d,y,rfl,hd⟩
   ·simp at h
   ·simp at h;rw [h.1,hb.1] at hd;cases hd
 |cons c a ih =>
  intro r x ha hb hr hx h
  simp only [List.all_cons,Bool.and_eq_true] at ha
  cases b with
  |nil =>
   rcases hx with rfl | ⟨d,y,rfl,hd⟩
   ·simp at h
   ·simp at h;rw [← h.1,ha.1] at hd;cases hd
  |cons d b =>
   simp only [List.all_cons,Bool.and_eq_true] at hb
   simp only [List.cons_append,List.cons.injEq] at h
   rw [h.1,ih ha.2 hb.2 hr hx h.2]
theorem greedy_first {p0 r p:Str} {ps:List Str} (h:greedy p0 r) (hl:lineOK (p0 ++ r) (p :: ps)):p=p0∧(r=[]∨∃ x,r=32 :: x):=by
 obtain ⟨h1,h2⟩:=line_head hl
 have hp:isPart p:=hl.1 p (by simp)
 have key:p.length=p0.length→p=p0∧(r=[]∨∃ x,r=32 :: x):=by
  intro e
  rcases h2 with ⟨_,e2⟩ | ⟨_,e2⟩
  ·have:=List.append_inj (s₁:=p0) (t₁:=r) (s₂:=p) (t₂:=[]) (by rw [List.append_nil];exact e2) e.symm
   exact ⟨this.1.symm,.inl this.2⟩
  ·have:=List.append_inj e2 e.symm
   exact ⟨this.1.symm,.inr ⟨_,this.2⟩⟩
 have tail:∃ x,p0 ++ r=p ++ x∧(x=[]∨∃ c y,x=c :: y∧wch c=false):=by
  rcases h2 with ⟨_,e2⟩ | ⟨_,e2⟩
  ·exact ⟨[],by rw [List.append_nil];exact e2,.inl rfl⟩
  ·exact ⟨_,e2,.inr ⟨32,_,rfl,by decide⟩⟩
 obtain ⟨x,hx,hx2⟩:=tail
 have hw:∀ q:Str,isWord q=true→q.all wch=true∧∃ c y,q=c :: y∧wch c=true:=by
  intro q hq
  unfold isWord at hq
  simp only [Bool.and_eq_true] at hq
  refine ⟨hq.2,?_⟩
  cases q with
  |nil=>simp at hq
  |cons c y=>exact ⟨c,y,rfl,by have:=hq.2;simp at this;exact this.1⟩
 rcases h with ⟨t,rfl⟩ | ⟨h3,h4⟩
 ·rcases hp with hp | ⟨u,rfl⟩
  ·obtain ⟨_,c,y,rfl,hc⟩:=hw p hp
   simp [quote] at hx
   rw [← hx.1] at hc;exact absurd hc (by decide)
  ·apply key
   have a1:=quotedN_quote t r
   have a2:=quotedN_quote u x
   rw [hx] at a1;omega
 ·rcases hp with hp | ⟨u,rfl⟩
  ·exact key (by rw [word_prefix (hw p0 h3).1 (hw p hp).1 h4 hx2 hx])
  ·obtain ⟨_,c,y,rfl,hc⟩:=hw p0 h3
   simp [quote] at hx
   rw [hx.1] at hc;exact absurd hc (by decide)
end Go.Proofs.YtljekdpgjaahjaaGreatDoor
namespace Go.Proofs.YtljekdpgjaahjaaGreatDoor
open Go.RowKit Num Txt
set_option linter.unusedVariables false
attribute [local go_sem] B_size B_get B_toList B_mk B_extract B_append
theorem drop_take_succ {l:Str} {p k:Nat} (hp:p≤k) (hk:k<l.length):(l.take (k+1)).drop p=(l.take k).drop p ++ [at8 l k]:=by
 rw [List.take_succ_eq_append_getElem hk,List.drop_append_of_le_length (by rw [List.length_take];omega),at8_eq l k hk]
theorem rword_any (l:List UInt8) (p:Nat) (w:World) (hl:l.length≤1000000) (hp:p≤l.length) :
  Calls Tryz.prog 108 #[.string (B l),.int .i64 p] w fun e w'=>∃ n:Nat,e=.returned (.int .i64 n)∧wordAt l p n∧w'=w:=by
 go_enter Tryz.func108,Tryz.ntmps108
 go_wp2_with fail
 go_loop [1] (fun i=>∃ k:Nat,p≤k∧k≤l.length∧i=.int .i64 k∧((l.take k).drop p).all wch=true) (fun i=>l.length - (intOf i).toNat)
 case atStart=>exact ⟨p,Nat.le_refl _,hp,rfl,by rw [List.drop_of_length_le (by rw [List.length_take];omega)];rfl⟩
 case round =>
  obtain ⟨k,hpk,hk,rfl,ha⟩:=hrel
  have HA:=Lib.hid ha
  clear ha
  by_cases hlt:k<l.length
  ·have STOP:=Lib.hid (fun h=>(show wordAt l p k from ⟨hpk,hk,HA.out,fun _=>h⟩))
   by_cases h1:(at8 l k).toNat≤32
   ·have HB:=Lib.hid (STOP.out (wch_no1 h1))
    have h1':¬ (33:Int)≤((at8 l k).toNat:Int):=by omega
    clear h1
    go_wp2_with fail
    go_ret
    exact ⟨k,rfl,HB.out,rfl⟩
   ·have h1':(33:Int)≤((at8 l k).toNat:Int):=by omega
    by_cases h2:126<(at8 l k).toNat
    ·have HB:=Lib.hid (STOP.out (wch_no2 h2))
     have h2':¬ ((at8 l k).toNat:Int)≤126:=by omega
     clear h1 h2
     go_wp2_with fail
     go_ret
     exact ⟨k,rfl,HB.out,rfl⟩
    ·have h2':((at8 l k).toNat:Int)≤126:=by omega
     by_cases h3:at8 l k=34
     ·have HB:=Lib.hid (STOP.out (wch_no3 h3))
      have h3':(((at8 l k).toNat:Int) != 34)=false:=by rw [h3];rfl
      clear h1 h2 h3
      go_wp2_with fail
      go_ret
      exact ⟨k,rfl,HB.out,rfl⟩
     ·have HB:=Lib.hid (show ((l.take (k+1)).drop p).all wch=true by
       rw [drop_take_succ hpk hlt,List.all_append,HA.out];simpa using wch_yes h1 h2 h3)
      have h3':(((at8 l k).toNat:Int) != 34)=true:=by have:=u8_not h3;simp at this ⊢;omega
      clear h1 h2 h3
      go_wp2_with fail
      go_round
      case rel=>exact ⟨k+1,by omega,by omega,by go_num,HB.out⟩
      case measure=>simp [intOf];omega
  ·have HB:=Lib.hid (show wordAt l p k from ⟨hpk,hk,HA.out,fun h=>absurd h hlt⟩)
   go_wp2_with fail
   go_ret
   exact ⟨k,rfl,HB.out,rfl⟩
def readAt (l:Str) (k n:Nat):Prop:=k<n∧n≤l.length∧greedy ((l.take n).drop k) (l.drop n)
theorem split_at {l:Str} {k n:Nat} (h:k≤n):l.drop k=(l.take n).drop k ++ l.drop n:=by
 rw [List.drop_take]
 have:=List.take_append_drop (n - k) (l.drop k)
 rw [List.drop_drop,show k+(n - k)=n by omega] at this
 exact this.symm
theorem read_word {l:Str} {k n:Nat} (h:wordAt l k n) (hkn:k≠n):readAt l k n:=by
 obtain ⟨h1,h2,h3,h4⟩:=h
 refine ⟨by omega,h2,.inr ⟨?_,?_⟩⟩
 ·unfold isWord
  rw [h3]
  have:((l.take n).drop k)≠[]:=by
   intro e
   have:=congrArg List.length e
   rw [List.length_drop,List.length_take,List.length_nil] at this;omega
  simp [this]
 ·by_cases h5:n<l.length
  ·exact .inr ⟨_,_,drop_at h5,h4 h5⟩
  ·exact .inl (List.drop_of_length_le (by omega))
theorem read_quote {l t x:Str} {k n:Nat} (hn:n=k+(quote t).length) (hl:n≤l.length) (hx:l.drop k=quote t ++ x):readAt l k n:=by
 have hq:=quote_len t
 refine ⟨by omega,hl,.inl ⟨t,?_⟩⟩
 rw [List.drop_take,hx,hn,Nat.add_sub_cancel_left,List.take_left]
theorem no_part {l:Str} {k:Nat} {os:List Str} (h:rInv l k os) (hl:l≠[]) (hw:wordAt l k k) (hq:∀ u x,l.drop k≠quote u ++ x):wordsL l=[]∧wordsE l=3:=words_no (fun ps hps=>by
 obtain ⟨p,ps',h1⟩:=rInv_line h hl hps
 have h2:=(line_head h1).2
 have hpre:∃ x,l.drop k=p ++ x:=by
  rcases h2 with ⟨_,e⟩ | ⟨_,e⟩
  ·exact ⟨[],by rw [List.append_nil];exact e⟩
  ·exact ⟨_,e⟩
 obtain ⟨x,hx⟩:=hpre
 rcases h1.1 p (by simp) with hp | ⟨t,rfl⟩
 ·unfold isWord at hp
  simp only [Bool.and_eq_true] at hp
  cases p with
  |nil=>simp at hp
  |cons c y =>
   have hk:k<l.length:=by
    have:=congrArg List.length hx
    rw [List.length_drop] at this;simp at this;omega
   rw [drop_at hk] at hx
   simp at hx hp
   have:=hw.2.2.2 hk
   rw [hx.1,hp.1] at this;cases this
 ·exact hq t x hx)
theorem no_blank {l:Str} {k n:Nat} {os:List Str} (h:rInv l k os) (hl:l≠[]) (hr:readAt l k n) (hn:n<l.length) (hb:at8 l n≠32):wordsL l=[]∧wordsE l=3:=words_no (fun ps hps=>by
 obtain ⟨p,ps',h1⟩:=rInv_line h hl hps
 rw [split_at (show k≤n by have:=hr.1;omega)] at h1
 obtain ⟨_,h2⟩:=greedy_first hr.2.2 h1
 rw [drop_at hn] at h2
 rcases h2 with h2 | ⟨x,h2⟩
 ·cases h2
 ·simp at h2;exact hb h2.1)
theorem inv_parts {os:List Str} {p:Str} (ho:∀ q ∈ os,isPart q) (hp:isPart p):∀ q ∈ os ++ [p],isPart q:=by
 intro q hq
 rw [List.mem_append] at hq
 rcases hq with hq | hq
 ·exact ho q hq
 ·simp at hq;rw [hq];exact hp
theorem inv_join {l r:Str} {k n:Nat} {os:List Str} (h:rInv l k os) (hr:readAt l k n) (hd:l.drop n=r):l=joinP (os ++ [(l.take n).drop k]) ++ r:=by
 have hs:=split_at (l:=l) (k:=k) (n:=n) (by have:=hr.1;omega)
 obtain ⟨ho,hk,⟨rfl,rfl⟩ | ⟨h1,_,_,h3⟩⟩:=h
 ·rw [List.drop_zero] at hs
  rw [List.nil_append,joinP,← hd];exact hs
 ·rw [joinP_append h1 (by simp),joinP,List.append_assoc,List.cons_append,← hd,← hs];exact h3
theorem inv_step {l:Str} {k n:Nat} {os:List Str} (h:rInv l k os) (hr:readAt l k n) (hn:n<l.length) (hb:at8 l n=32):rInv l (n+1) (os ++ [(l.take n).drop k]) :=
 ⟨inv_parts h.1 (greedy_part hr.2.2),by omega,.inr ⟨by simp,by omega,by simpa using hb,inv_join h hr (by rw [drop_at hn,hb])⟩⟩
theorem inv_done {l:Str} {k:Nat} {os:List Str} (h:rInv l k os) (hr:readAt l k l.length):wordsL l=os ++ [(l.take l.length).drop k]∧wordsE l=0∧l.getLast? ≠ some 32:=by
 have h1:=inv_parts h.1 (greedy_part hr.2.2)
 have h2:=inv_join h hr (List.drop_of_length_le (Nat.le_refl _))
 rw [List.append_nil] at h2
 have h3:=words_ok ⟨h1,h2⟩
 refine ⟨h3.1,h3.2,?_⟩
 have:=line_last h1
 rwa [← h2] at this
theorem last_at {l:Str} (h:0<l.length) (h2:l.getLast? ≠ some 32):at8 l (l.length - 1)≠32:=by
 intro e
 apply h2
 rw [List.getLast?_eq_getElem?,List.getElem?_eq_getElem (by omega),← at8_eq l _ (by omega),e]
set_option maxHeartbeats 2000000 in
theorem rwords_any (l:List UInt8) (w:World) (hl:l.length≤100000) :
  Calls Tryz.prog 74 #[.string (B l)] w fun e w'=>∃ A c,e=.returned (.tuple #[.slice A (wordsL l).length c,.int .i64 (wordsE l)])∧OwnS w' w.heap.size 9 A (wordsL l).length c (strs (wordsL l))∧Below w.heap.size w w':=by
 go_enter Tryz.func74,Tryz.ntmps74
 go_wp2_with fail
 go_loopw [4,5,6,7,8,9] (fun v i _ _ _ _ wr=>∃ (k:Nat) (os:List (List UInt8)) (A:Option Addr) (c:Nat),v=.slice A os.length c∧i=.int .i64 k∧os.length≤k∧(rInv l k os∨(k=l.length∧0<os.length∧0<l.length∧wordsL l=os∧wordsE l=0∧l.getLast? ≠ some 32))∧OwnS wr w.heap.size 9 A os.length c (strs os)∧Below w.heap.size w wr) (fun _ i _ _ _ _ _=>l.length - (intOf i).toNat)
 case atStart=>exact ⟨0,[],none,0,rfl,rfl,by simp,.inl (rInv_start l),OwnS.nil _ _ _,Below.refl _ _⟩
 case round =>
  obtain ⟨k,os,A,c,rfl,rfl,hos,hst,hown,hbel⟩:=hrel
  rcases hst with hinv | ⟨rfl,ho0,hl0,hd1,hd2,hd3⟩
  ·have hkl:=hinv.2.1
   have HI:=Lib.hid hinv
   have start:(k<l.length)∨(k=l.length∧0<os.length∧0<k∧(((at8 l (k - 1)).toNat:Int) == 32)=true)∨(l=[]∧os=[]):=by
    rcases Nat.lt_or_ge k l.length with h | h
    ·exact .inl h
    ·rcases hinv.2.2 with ⟨h1,h2⟩ | ⟨h1,h2,h3,_⟩
     ·exact .inr (.inr ⟨List.eq_nil_of_length_eq_zero (by omega),h1⟩)
     ·exact .inr (.inl ⟨by omega,List.length_pos_iff.2 h1,h2,u8_is h3⟩)
   clear hinv
   rcases start with hlt | ⟨hke,ho0,hk0,h32⟩ | ⟨rfl,rfl⟩
   ·have hne:l≠[]:=by rintro rfl;simp at hlt
    have NP:=Lib.hid (no_part HI.out hne)
    clear hne
    go_wp2_with fail
    refine (rword_any l k wr (by omega) hkl).mono ?_
    rintro e w2 ⟨n,rfl,hw,rfl⟩
    by_cases hkn:k=n
    ·subst hkn
     have HW:=Lib.hid hw
     clear hw
     have e1:((k:Int) == (k:Int))=true:=by simp
     go_wp2_with fail
     refine (rquoted_any l k _ (by omega) (by omega)).mono ?_
     rintro e w3 ⟨t,m,b,rfl,hq,hb3⟩
     have hown3:=hown.below hb3
     have hbel3:=hbel.trans (hb3.mono hbel.size)
     rcases hq with ⟨rfl,hm1,hm2,x,hx⟩ | ⟨rfl,hno⟩
     ·have HR:=Lib.hid (read_quote hm1 hm2 hx)
      clear hm1 hm2 hx hown hb3 hbel
      have hkn:k<m:=HR.out.1
      have hnl:m≤l.length:=HR.out.2.1
      have hstr:List.take l.length l=l:=List.take_of_length_le (Nat.le_refl _)
      by_cases hlt2:m<l.length
      ·by_cases hb:at8 l m=32
       ·have e5:(((at8 l m).toNat:Int) != 32)=false:=by rw [hb];rfl
        have HS:=Lib.hid (inv_step HI.out HR.out hlt2 hb)
        clear hb
        go_wp2_with (at_builtin;refine wp_app1 el_string rfl _ _ rfl w.heap.size _ _ _ (strs os) _ (.string (B ((l.take m).drop k))) rfl hown3 rfl rfl (by unfold maxLen;omega) (by omega) hbel3.size ?_;intro A' c' w5 hown5 hb5)
        go_roundw
        case rel =>
         rw [snoc_strs] at hown5
         exact ⟨m+1,os ++ [(l.take m).drop k],A',c',by simp,by go_num,by simp;omega,.inl HS.out,by simpa using hown5,hbel3.trans hb5⟩
        case measure=>simp [intOf];omega
       ·have e5:(((at8 l m).toNat:Int) != 32)=true:=by have:=u8_not hb;simp at this ⊢;omega
        have HB:=Lib.hid (no_blank HI.out (by rintro rfl;simp at hlt2) HR.out hlt2 hb)
        clear hb
        go_wp2_with (at_builtin;refine wp_app1 el_string rfl _ _ rfl w.heap.size _ _ _ (strs os) _ (.string (B ((l.take m).drop k))) rfl hown3 rfl rfl (by unfold maxLen;omega) (by omega) hbel3.size ?_;intro A' c' w5 hown5 hb5)
        go_ret2
        rw [HB.out.1,HB.out.2]
        exact ⟨none,0,rfl,OwnS.nil _ _ _,hbel3.trans hb5⟩
      ·obtain rfl:m=l.length:=by omega
       have HS:=Lib.hid (inv_done HI.out HR.out)
       rw [hstr] at HS
       go_wp2_with (at_builtin;refine wp_app1 el_string rfl _ _ rfl w.heap.size _ _ _ (strs os) _ (.string (B (l.drop k))) rfl hown3 rfl rfl (by unfold maxLen;omega) (by omega) hbel3.size ?_;intro A' c' w5 hown5 hb5)
       go_roundw
       case rel =>
        rw [snoc_strs] at hown5
        exact ⟨l.length,os ++ [l.drop k],A',c',by simp,rfl,by simp;omega,.inr ⟨rfl,by simp,by omega,HS.out⟩,by simpa using hown5,hbel3.trans hb5⟩
       case measure=>simp [intOf];omega
     ·have HB:=Lib.hid (NP.out HW.out hno)
      clear hno
      go_wp2_with fail
      go_ret2
      rw [HB.out.1,HB.out.2]
      exact ⟨none,0,rfl,OwnS.nil _ _ _,hbel3⟩
    ·have HR:=Lib.hid (read_word hw hkn)
     have e1:((n:Int) == (k:Int))=false:=by rw [beq_eq_false_iff_ne];omega
     clear hw hkn
     have hkn:k<n:=HR.out.1
     have hnl:n≤l.length:=HR.out.2.1
     have hstr:List.take l.length l=l:=List.take_of_length_le (Nat.le_refl _)
     by_cases hlt2:n<l.length
     ·by_cases hb:at8 l n=32
      ·have e5:(((at8 l n).toNat:Int) != 32)=false:=by rw [hb];rfl
       have HS:=Lib.hid (inv_step HI.out HR.out hlt2 hb)
       clear hb
       go_wp2_with (at_builtin;refine wp_app1 el_string rfl _ _ rfl w.heap.size _ _ _ (strs os) _ (.string (B ((l.take n).drop k))) rfl hown rfl rfl (by unfold maxLen;omega) (by omega) hbel.size ?_;intro A' c' w5 hown5 hb5)
       go_roundw
       case rel =>
        rw [snoc_strs] at hown5
        exact ⟨n+1,os ++ [(l.take n).drop k],A',c',by simp,by go_num,by simp;omega,.inl HS.out,by simpa using hown5,hbel.trans hb5⟩
       case measure=>simp [intOf];omega
      ·have e5:(((at8 l n).toNat:Int) != 32)=true:=by have:=u8_not hb;simp at this ⊢;omega
       have HB:=Lib.hid (no_blank HI.out (by rintro rfl;simp at hlt2) HR.out hlt2 hb)
       clear hb
       go_wp2_with (at_builtin;refine wp_app1 el_string rfl _ _ rfl w.heap.size _ _ _ (strs os) _ (.string (B ((l.take n).drop k))) rfl hown rfl rfl (by unfold maxLen;omega) (by omega) hbel.size ?_;intro A' c' w5 hown5 hb5)
       go_ret2
       rw [HB.out.1,HB.out.2]
       exact ⟨none,0,rfl,OwnS.nil _ _ _,hbel.trans hb5⟩
     ·obtain rfl:n=l.length:=by omega
      have HS:=Lib.hid (inv_done HI.out HR.out)
      rw [hstr] at HS
      go_wp2_with (at_builtin;refine wp_app1 el_string rfl _ _ rfl w.heap.size _ _ _ (strs os) _ (.string (B (l.drop k))) rfl hown rfl rfl (by unfold maxLen;omega) (by omega) hbel.size ?_;intro A' c' w5 hown5 hb5)
      go_roundw
      case rel =>
       rw [snoc_strs] at hown5
       exact ⟨l.length,os ++ [l.drop k],A',c',by simp,rfl,by simp;omega,.inr ⟨rfl,by simp,by omega,HS.out⟩,by simpa using hown5,hbel.trans hb5⟩
      case measure=>simp [intOf];omega
   ·subst hke
    have hne:l≠[]:=by rintro rfl;simp at hk0
    have NP:=Lib.hid (no_part HI.out hne)
    have e2:((l.length:Int) == (l.length:Int))=true:=by simp
    have e3:(0:Int)<(os.length:Int):=by omega
    have e4:((l.length:Int) - 1).toNat=l.length - 1:=by omega
    clear hne
    go_wp2_with fail
    refine (rword_any l l.length _ (by omega) hkl).mono ?_
    rintro e w2 ⟨n,rfl,hw,rfl⟩
    have hn:n=l.length:=by have:=hw.1;have:=hw.2.1;omega
    subst hn
    have HW:=Lib.hid hw
    clear hw
    go_wp2_with fail
    refine (rquoted_any l l.length _ (by omega) (by omega)).mono ?_
    rintro e w3 ⟨t,m,b,rfl,hq,hb3⟩
    have hbel3:=hbel.trans (hb3.mono hbel.size)
    rcases hq with ⟨rfl,hm1,hm2,x,hx⟩ | ⟨rfl,hno⟩
    ·exfalso
     rw [quote_len] at hm1
     omega
    ·have HB:=Lib.hid (NP.out HW.out hno)
     clear hno
     go_wp2_with fail
     go_ret2
     rw [HB.out.1,HB.out.2]
     exact ⟨none,0,rfl,OwnS.nil _ _ _,hbel3⟩
   ·have HB:=Lib.hid (words_ok (s:=[]) (ps:=[]) ⟨by simp,rfl⟩)
    go_wp2_with fail
    go_ret2
    rw [HB.out.1,HB.out.2]
    exact ⟨A,c,rfl,hown,hbel⟩
  ·have h32:(((at8 l (l.length - 1)).toNat:Int) == 32)=false:=u8_not (last_at hl0 hd3)
   have e3:(0:Int)<(os.length:Int):=by omega
   have e4:((l.length:Int) - 1).toNat=l.length - 1:=by omega
   have e2:((l.length:Int) == (l.length:Int))=true:=by simp
   have HB:=Lib.hid (And.intro hd1 hd2)
   clear hd1 hd2 hd3
   go_wp2_with fail
   go_ret2
   rw [HB.out.1,HB.out.2]
   exact ⟨A,c,rfl,hown,hbel⟩
end Go.Proofs.YtljekdpgjaahjaaGreatDoor

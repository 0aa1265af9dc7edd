/- Plain theory of names, quoted texts and lines of parts. No program in sight. -/
import Derived.Test.YtjcekdiocliddaaGreatDoorG1
import Derived.Test.YtjcekdiocliddaaGreatDoorG46
import Derived.Lib.IndexMore
namespace Go.Proofs.YtjcekdiocliddaaGreatDoor
namespace Txt
open Num
def isLet (c:UInt8):Bool:=(decide (97≤c.toNat) && decide (c.toNat≤122)) || (decide (65≤c.toNat) && decide (c.toNat≤90)) || decide (c.toNat=95)
def nameOK (s:Str):Bool:=decide (1≤s.length) && decide (s.length≤16) && !isDig (s.getD 0 0) && s.all fun c=>isLet c || isDig c
def hexd (n:Nat):UInt8:=if n<10 then UInt8.ofNat (48+n) else UInt8.ofNat (87+n)
def form (c:UInt8):Str :=
 if c=34∨c=92 then [92,c] else if c=10 then [92,110] else if c.toNat<32∨126<c.toNat then [92,120,hexd (c.toNat / 16),hexd (c.toNat % 16)] else [c]
def forms (t:Str):Str:=t.flatMap form
def quote (t:Str):Str:=34 :: forms t ++ [34]
theorem hexd_inj {a b:Nat} (ha:a<16) (hb:b<16) (h:hexd a=hexd b):a=b:=by
 unfold hexd at h
 have:=congrArg UInt8.toNat h
 split at this <;> split at this <;> simp only [UInt8.toNat_ofNat'] at this <;> omega
theorem form_ne (c:UInt8):form c≠[]:=by unfold form;split <;> (try split) <;> (try split) <;> simp
theorem form_head (c:UInt8):(form c).head? ≠ some 34:=by
 unfold form
 split
 ·simp
 ·split
  ·simp
  ·split
   ·simp
   ·rename_i h _ _
    simp;intro e;exact h (.inl e)
theorem form_prefix {c d:UInt8} {x y:Str} (h:form c ++ x=form d ++ y):c=d∧x=y:=by
 have key:form c=form d→c=d:=by
  intro e
  unfold form at e
  by_cases hc:c=34∨c=92
  ·rw [if_pos hc] at e
   by_cases hd:d=34∨d=92
   ·rw [if_pos hd] at e;simpa using e
   ·rw [if_neg hd] at e
    by_cases hd2:d=10
    ·rw [if_pos hd2] at e;simp at e;subst e;rcases hc with h | h <;> cases h
    ·rw [if_neg hd2] at e
     by_cases hd3:d.toNat<32∨126<d.toNat
     ·rw [if_pos hd3] at e;simp at e
     ·rw [if_neg hd3] at e;simp at e
  ·rw [if_neg hc] at e
   by_cases hc2:c=10
   ·rw [if_pos hc2] at e
    by_cases hd:d=34∨d=92
    ·rw [if_pos hd] at e;simp at e;subst e;rcases hd with h | h <;> cases h
    ·rw [if_neg hd] at e
     by_cases hd2:d=10
     ·rw [hc2,hd2]
     ·rw [if_neg hd2] at e
      by_cases hd3:d.toNat<32∨126<d.toNat
      ·rw [if_pos hd3] at e;simp at e
      ·rw [if_neg hd3] at e;simp at e
   ·rw [if_neg hc2] at e
    by_cases hc3:c.toNat<32∨126<c.toNat
    ·rw [if_pos hc3] at e
     by_cases hd:d=34∨d=92
     ·rw [if_pos hd] at e;simp at e
     ·rw [if_neg hd] at e
      by_cases hd2:d=10
      ·rw [if_pos hd2] at e;simp at e
      ·rw [if_neg hd2] at e
       by_cases hd3:d.toNat<32∨126<d.toNat
       ·rw [if_pos hd3] at e
        simp only [List.cons.injEq,true_and,and_true] at e
        have h1:=hexd_inj (by have:=c.toNat_lt;omega) (by have:=d.toNat_lt;omega) e.1
        have h2:=hexd_inj (by omega) (by omega) e.2
        apply UInt8.toNat_inj.1;omega
       ·rw [if_neg hd3] at e;simp at e
    ·rw [if_neg hc3] at e
     by_cases hd:d=34∨d=92
     ·rw [if_pos hd] at e;simp at e
     ·rw [if_neg hd] at e
      by_cases hd2:d=10
      ·rw [if_pos hd2] at e;simp at e
      ·rw [if_neg hd2] at e
       by_cases hd3:d.toNat<32∨126<d.toNat
       ·rw [if_pos hd3] at e;simp at e
       ·rw [if_neg hd3] at e;simpa using e
 have len:(form c).length=(form d).length:=by
  have hl:∀ c:UInt8,form c=[c]∧c≠92∨(∃ e,form c=[92,e]∧e≠120)∨∃ a b,form c=[92,120,a,b]:=by
   intro c
   unfold form
   by_cases hc:c=34∨c=92
   ·rw [if_pos hc];right;left;refine ⟨c,rfl,?_⟩;rintro rfl;rcases hc with h | h <;> cases h
   ·rw [if_neg hc]
    by_cases hc2:c=10
    ·rw [if_pos hc2];right;left;exact ⟨110,rfl,by decide⟩
    ·rw [if_neg hc2]
     by_cases hc3:c.toNat<32∨126<c.toNat
     ·rw [if_pos hc3];right;right;exact ⟨_,_,rfl⟩
     ·rw [if_neg hc3];left;exact ⟨rfl,fun e=>hc (.inr e)⟩
  rcases hl c with ⟨h1,h2⟩ | ⟨e,h1,h2⟩ | ⟨a,b,h1⟩ <;> rcases hl d with ⟨h3,h4⟩ | ⟨e',h3,h4⟩ | ⟨a',b',h3⟩ <;> rw [h1,h3] at h ⊢ <;> simp at h ⊢
  ·exact h2 h.1
  ·exact h2 h.1
  ·exact h4 h.1.symm
  ·exact h2 h.1
  ·exact h4 h.1.symm
  ·exact h4 h.1.symm
 have:=List.append_inj h len
 exact ⟨key this.1,this.2⟩
theorem forms_nil:forms []=[]:=rfl
theorem forms_cons (c:UInt8) (t:Str):forms (c :: t)=form c ++ forms t:=by simp [forms]
theorem forms_append (a b:Str):forms (a ++ b)=forms a ++ forms b:=by simp [forms]
theorem forms_snoc (a:Str) (c:UInt8):forms (a ++ [c])=forms a ++ form c:=by simp [forms]
theorem forms_split:∀ (a t x:Str),forms a ++ x=forms t→∃ t',t=a ++ t'∧x=forms t':=by
 intro a
 induction a with
 |nil=>intro t x h;exact ⟨t,rfl,by simpa [forms] using h⟩
 |cons c a ih =>
  intro t x h
  cases t with
  |nil =>
   rw [forms_cons,List.append_assoc] at h
   have h1:=congrArg List.length h
   have h2:=List.length_pos_iff.2 (form_ne c)
   rw [List.length_append,forms_nil,List.length_nil] at h1
   omega
  |cons d t =>
   rw [forms_cons,forms_cons,List.append_assoc] at h
   obtain ⟨rfl,h2⟩:=form_prefix h
   obtain ⟨t',rfl,hx⟩:=ih t x h2
   exact ⟨t',rfl,hx⟩
theorem forms_inj {a b:Str} (h:forms a=forms b):a=b:=by
 obtain ⟨t',hb,hx⟩:=forms_split a b [] (by simpa using h)
 cases t' with
 |nil=>simpa using hb.symm
 |cons c t =>
  rw [forms_cons] at hx
  have:=List.length_pos_iff.2 (form_ne c)
  have h2:=congrArg List.length hx
  rw [List.length_append,List.length_nil] at h2;omega
theorem quote_inj {a b:Str} (h:quote a=quote b):a=b:=by
 unfold quote at h
 simp only [List.cons_append,List.cons.injEq,true_and] at h
 exact forms_inj (List.append_cancel_right h)
open Classical in
noncomputable def unqS (s:Str):Str:=if h:∃ t,s=quote t then Classical.choose h else []
open Classical in
noncomputable def unqE (s:Str):Int:=if ∃ t,s=quote t then 0 else 3
theorem unqS_quote (t:Str):unqS (quote t)=t:=by
 have h:∃ u,quote t=quote u:=⟨t,rfl⟩
 unfold unqS
 rw [dif_pos h]
 exact (quote_inj (Classical.choose_spec h)).symm
theorem unqE_quote (t:Str):unqE (quote t)=0:=by unfold unqE;rw [if_pos ⟨t,rfl⟩]
theorem unq_no {s:Str} (h:∀ t,s≠quote t):unqS s=[]∧unqE s=3:=by
 have h':¬ ∃ t,s=quote t:=fun ⟨t,e⟩=>h t e
 unfold unqS unqE
 rw [dif_neg h',if_neg h'];exact ⟨rfl,rfl⟩
theorem unqE_zero {s:Str} (h:unqE s=0):∃ t,s=quote t:=by
 unfold unqE at h
 by_cases h':∃ t,s=quote t
 ·exact h'
 ·rw [if_neg h'] at h;cases h
end Txt
end Go.Proofs.YtjcekdiocliddaaGreatDoor
namespace Go.Proofs.YtjcekdiocliddaaGreatDoor
namespace Txt
open Num
def wch (c:UInt8):Bool:=decide (33≤c.toNat) && decide (c.toNat≤126) && !(c == 34)
def isWord (s:Str):Bool:=!s.isEmpty && s.all wch
def isPart (p:Str):Prop:=isWord p=true∨∃ t,p=quote t
def joinP:List Str→Str
 |[]=>[]
 |[p]=>p
 |p :: q :: r=>p ++ 32 :: joinP (q :: r)
def lineOK (s:Str) (ps:List Str):Prop:=(∀ p ∈ ps,isPart p)∧s=joinP ps
theorem isPart_ne {p:Str} (h:isPart p):p≠[]:=by
 rcases h with h | ⟨t,rfl⟩
 ·intro e;subst e;simp [isWord] at h
 ·simp [quote]
theorem joinP_cons {p:Str} {ps:List Str}:joinP (p :: ps)=if ps=[] then p else p ++ 32 :: joinP ps:=by
 cases ps with
 |nil=>rfl
 |cons q r=>simp [joinP]
theorem joinP_ne {ps:List Str} (h:ps≠[]) (hp:∀ p ∈ ps,isPart p):joinP ps≠[]:=by
 cases ps with
 |nil=>exact absurd rfl h
 |cons p r =>
  rw [joinP_cons]
  have:=isPart_ne (hp p (by simp))
  split
  ·exact this
  ·simp [this]
theorem joinP_append {a b:List Str} (ha:a≠[]) (hb:b≠[]):joinP (a ++ b)=joinP a ++ 32 :: joinP b:=by
 induction a with
 |nil=>exact absurd rfl ha
 |cons p r ih =>
  rw [List.cons_append,joinP_cons,joinP_cons]
  by_cases hr:r=[]
  ·subst hr;simp [hb]
  ·rw [if_neg (by simp [hr]),if_neg hr,ih hr];simp
def scan:Str→Option Nat
 |[]=>none
 |[c]=>if c=34 then some 1 else none
 |c :: d :: l=>if c=34 then some 1 else if c=92 then (scan l).map (·+ 2) else (scan (d :: l)).map (·+ 1)
def quotedN (s:Str):Nat:=match scan (s.drop 1) with | some n=>n+1 | none=>0
theorem scan_one {c:UInt8} (h1:c≠34) (h2:c≠92) (l:Str):scan (c :: l)=(scan l).map (·+ 1):=by
 cases l with
 |nil=>simp [scan,h1]
 |cons d l=>rw [scan,if_neg h1,if_neg h2]
theorem scan_two (d:UInt8) (l:Str):scan (92 :: d :: l)=(scan l).map (·+ 2):=by rw [scan,if_neg (by decide),if_pos rfl]
theorem scan_end (l:Str):scan (34 :: l)=some 1:=by cases l <;> simp [scan]
theorem hexd_ne (n:Nat) (h:n<16):hexd n≠34∧hexd n≠92:=by
 have:∀ n,n<16→hexd n≠34∧hexd n≠92:=by decide
 exact this n h
theorem scan_form (c:UInt8) (x:Str):scan (form c ++ x)=(scan x).map (·+ (form c).length):=by
 unfold form
 by_cases h1:c=34∨c=92
 ·rw [if_pos h1];exact scan_two c x
 ·rw [if_neg h1]
  by_cases h2:c=10
  ·rw [if_pos h2];exact scan_two 110 x
  ·rw [if_neg h2]
   by_cases h3:c.toNat<32∨126<c.toNat
   ·rw [if_pos h3]
    have ha:=hexd_ne (c.toNat / 16) (by have:=c.toNat_lt;omega)
    have hb:=hexd_ne (c.toNat % 16) (by omega)
    show scan (92 :: 120 :: (hexd (c.toNat / 16) :: hexd (c.toNat % 16) :: x))=_
    rw [scan_two,scan_one ha.1 ha.2,scan_one hb.1 hb.2]
    cases scan x <;> simp
   ·rw [if_neg h3]
    exact scan_one (fun e=>h1 (.inl e)) (fun e=>h1 (.inr e)) x
theorem scan_forms (t:Str) (x:Str):scan (forms t ++ 34 :: x)=some ((forms t).length+1):=by
 induction t with
 |nil=>rw [forms_nil,List.nil_append,scan_end];rfl
 |cons c t ih =>
  rw [forms_cons,List.append_assoc,scan_form,ih]
  simp;omega
theorem quotedN_quote (t x:Str):quotedN (quote t ++ x)=(quote t).length:=by
 unfold quotedN quote
 simp only [List.cons_append,List.drop_succ_cons,List.drop_zero,List.append_assoc,List.nil_append]
 rw [scan_forms];simp
def idx32 (s:Str):Nat:=(s.takeWhile fun c=>c != 32).length
theorem idx32_le (s:Str):idx32 s≤s.length:=by unfold idx32;exact (List.takeWhile_sublist _).length_le
open Classical in
noncomputable def partN (s:Str):Nat :=
 if s.head? = some 34 then (if unqE (s.take (quotedN s))=0 then quotedN s else 0)
 else if isWord (s.take (idx32 s))=true then idx32 s else 0
theorem wch_ne {c:UInt8} (h:wch c=true):c≠32∧c≠34:=by
 unfold wch at h;simp at h
 refine ⟨?_,h.2⟩
 rintro rfl;simp at h
theorem idx32_word {p rest:Str} (hp:isWord p=true) (hr:rest=[]∨rest.head? = some 32):idx32 (p ++ rest)=p.length:=by
 have hall:∀ c ∈ p,(c != 32)=true:=by
  intro c hc
  unfold isWord at hp;simp at hp
  have:=wch_ne (hp.2 c hc)
  simpa using this.1
 unfold idx32
 rw [List.takeWhile_append_of_pos hall]
 rcases hr with rfl | hr
 ·simp
 ·cases rest with
  |nil=>simp
  |cons d r=>simp at hr;subst hr;simp
theorem head_word {p:Str} (hp:isWord p=true) (rest:Str):(p ++ rest).head? ≠ some 34:=by
 unfold isWord at hp;simp at hp
 cases p with
 |nil=>simp at hp
 |cons c r =>
  simp
  exact (wch_ne (hp.2 c (by simp))).2
theorem partN_of {p rest:Str} (hp:isPart p) (hr:rest=[]∨rest.head? = some 32):partN (p ++ rest)=p.length:=by
 rcases hp with hp | ⟨t,rfl⟩
 ·unfold partN
  rw [if_neg (head_word hp rest),idx32_word hp hr,List.take_left,if_pos hp]
 ·unfold partN
  have:(quote t ++ rest).head? = some 34:=by simp [quote]
  rw [if_pos this,quotedN_quote,List.take_left,if_pos (unqE_quote t)]
theorem isPart_of {s:Str} (h:0<partN s):isPart (s.take (partN s))∧partN s≤s.length:=by
 unfold partN at h ⊢
 by_cases h1:s.head? = some 34
 ·rw [if_pos h1] at h ⊢
  by_cases h2:unqE (s.take (quotedN s))=0
  ·rw [if_pos h2] at h ⊢
   obtain ⟨t,ht⟩:=unqE_zero h2
   refine ⟨.inr ⟨t,ht⟩,?_⟩
   rcases Nat.lt_or_ge s.length (quotedN s) with h3 | h3
   ·rw [List.take_of_length_le (by omega)] at ht
    have:=quotedN_quote t []
    rw [List.append_nil,← ht] at this
    omega
   ·exact h3
  ·rw [if_neg h2] at h;omega
 ·rw [if_neg h1] at h ⊢
  by_cases h2:isWord (s.take (idx32 s))=true
  ·rw [if_pos h2] at h ⊢;exact ⟨.inl h2,idx32_le s⟩
  ·rw [if_neg h2] at h;omega
theorem line_head {s p:Str} {ps:List Str} (h:lineOK s (p :: ps)):partN s=p.length∧(ps=[]∧s=p∨ps≠[]∧s=p ++ 32 :: joinP ps):=by
 obtain ⟨hp,hs⟩:=h
 rw [joinP_cons] at hs
 by_cases h0:ps=[]
 ·rw [if_pos h0] at hs
  refine ⟨?_,.inl ⟨h0,hs⟩⟩
  have:=partN_of (hp p (by simp)) (rest:=[]) (.inl rfl)
  rw [List.append_nil] at this
  rw [hs];exact this
 ·rw [if_neg h0] at hs
  refine ⟨?_,.inr ⟨h0,hs⟩⟩
  rw [hs];exact partN_of (hp p (by simp)) (.inr rfl)
theorem line_split:∀ (os ps:List Str) (s:Str),os≠[]→s≠[]→(∀ p ∈ os,isPart p)→lineOK (joinP os ++ 32 :: s) ps→∃ ps',ps'≠[]∧ps=os ++ ps'∧lineOK s ps':=by
 intro os
 induction os with
 |nil=>intro ps s h;exact absurd rfl h
 |cons o os ih =>
  intro ps s _ hs ho hl
  cases ps with
  |nil =>
   have:=hl.2
   rw [joinP] at this
   simp at this
  |cons p ps =>
   have hlo:lineOK (joinP (o :: os) ++ 32 :: s) (p :: ps):=hl
   obtain ⟨h1,h2⟩:=line_head hl
   have hpo:isPart o:=ho o (by simp)
   have h3:partN (joinP (o :: os) ++ 32 :: s)=o.length:=by
    rw [joinP_cons]
    by_cases h0:os=[]
    ·rw [if_pos h0];exact partN_of hpo (.inr rfl)
    ·rw [if_neg h0,List.append_assoc];exact partN_of hpo (.inr rfl)
   have hlen:p.length=o.length:=by rw [← h1,h3]
   have hpre:∃ y,joinP (o :: os) ++ 32 :: s=o ++ 32 :: y∧(os=[]∧y=s∨os≠[]∧y=joinP os ++ 32 :: s):=by
    rw [joinP_cons]
    by_cases h0:os=[]
    ·rw [if_pos h0];exact ⟨s,rfl,.inl ⟨h0,rfl⟩⟩
    ·rw [if_neg h0];exact ⟨joinP os ++ 32 :: s,by simp,.inr ⟨h0,rfl⟩⟩
   obtain ⟨y,hy,hy2⟩:=hpre
   rcases h2 with ⟨hp0,he⟩ | ⟨hp0,he⟩
   ·rw [hy] at he
    have:=congrArg List.length he
    simp at this;omega
   ·rw [hy] at he
    obtain ⟨e1,e2⟩:=List.append_inj he hlen.symm
    injection e2 with _ e2
    subst e1
    have hlp:lineOK y ps:=⟨fun q hq=>hl.1 q (by simp [hq]),e2⟩
    rcases hy2 with ⟨h0,rfl⟩ | ⟨h0,rfl⟩
    ·exact ⟨ps,hp0,by rw [h0];rfl,hlp⟩
    ·obtain ⟨ps',h4,h5,h6⟩:=ih ps s h0 hs (fun q hq=>ho q (by simp [hq])) hlp
     exact ⟨ps',h4,by rw [h5];rfl,h6⟩
theorem line_unique:∀ (ps qs:List Str) (s:Str),lineOK s ps→lineOK s qs→ps=qs:=by
 intro ps
 induction ps with
 |nil =>
  intro qs s h1 h2
  cases qs with
  |nil=>rfl
  |cons q qs=>exact absurd (h2.2.symm.trans h1.2) (joinP_ne (by simp) h2.1)
 |cons p ps ih =>
  intro qs s h1 h2
  cases qs with
  |nil=>exact absurd (h1.2.symm.trans h2.2) (joinP_ne (by simp) h1.1)
  |cons q qs =>
   obtain ⟨a1,a2⟩:=line_head h1
   obtain ⟨b1,b2⟩:=line_head h2
   have hlen:p.length=q.length:=by rw [← a1,b1]
   rcases a2 with ⟨a0,ae⟩ | ⟨a0,ae⟩ <;> rcases b2 with ⟨b0,be⟩ | ⟨b0,be⟩
   ·rw [a0,b0,← ae,← be]
   ·rw [ae] at be
    have:=congrArg List.length be
    simp at this;omega
   ·rw [be] at ae
    have:=congrArg List.length ae
    simp at this;omega
   ·rw [ae] at be
    obtain ⟨e1,e2⟩:=List.append_inj be hlen
    injection e2 with _ e2
    subst e1
    have:=ih qs (joinP ps) ⟨fun x hx=>h1.1 x (by simp [hx]),rfl⟩ ⟨fun x hx=>h2.1 x (by simp [hx]),e2⟩
    rw [this]
open Classical in
noncomputable def wordsL (s:Str):List Str:=if h:∃ ps,lineOK s ps then Classical.choose h else []
open Classical in
noncomputable def wordsE (s:Str):Int:=if ∃ ps,lineOK s ps then 0 else 3
theorem words_ok {s:Str} {ps:List Str} (h:lineOK s ps):wordsL s=ps∧wordsE s=0:=by
 have h':∃ ps,lineOK s ps:=⟨ps,h⟩
 unfold wordsL wordsE
 rw [dif_pos h',if_pos h']
 exact ⟨line_unique _ _ s (Classical.choose_spec h') h,rfl⟩
theorem words_no {s:Str} (h:∀ ps,¬ lineOK s ps):wordsL s=[]∧wordsE s=3:=by
 have h':¬ ∃ ps,lineOK s ps:=fun ⟨ps,e⟩=>h ps e
 unfold wordsL wordsE
 rw [dif_neg h',if_neg h'];exact ⟨rfl,rfl⟩
end Txt
end Go.Proofs.YtjcekdiocliddaaGreatDoor
namespace Go.Proofs.YtjcekdiocliddaaGreatDoor
namespace Pf
open Num Txt
structure RouV where
 kind:Int
 start:Int
 rests:List Bool
 vis:List (Int × Bool)
structure PlanV where
 rous:List RouV
 uns:List Int
structure NodeV where
 leaf:Bool
 kind:Int
 cuts:List (Int × Int × Int)
 dual:List Str
 ck:Int
 ca:Int
 cb:Int
 cn:Int
 yes:Int
 no:Int
structure ProofV where
 none:Bool
 plan:PlanV
 nodes:List NodeV
abbrev routeW:Str:=[114,111,117,116,101]
abbrev unsW:Str:=[117,110,115,101,114,118,101,100]
abbrev proofW:Str:=[112,114,111,111,102]
abbrev planW:Str:=[112,108,97,110]
abbrev noneW:Str:=[110,111,110,101]
abbrev leafW:Str:=[108,101,97,102]
abbrev nodeW:Str:=[110,111,100,101]
abbrev cutW:Str:=[99,117,116]
abbrev dualW:Str:=[100,117,97,108]
abbrev endW:Str:=[101,110,100]
def restsW (l:List Bool):Str:=if l=[] then [46] else l.map fun b=>if b then 121 else 110
def visW (v:Int × Bool):Str:=(if v.2 then 45 else 43) :: decI v.1
def rouWs (r:RouV):List Str:=routeW :: decI r.kind :: decI r.start :: restsW r.rests :: r.vis.map visW
def unsWs (l:List Int):List Str:=unsW :: l.map decI
def lineS (ws:List Str):Str:=joinP ws ++ [10]
def rousS (l:List RouV):Str:=l.flatMap fun r=>lineS (rouWs r)
def planS (p:PlanV):Str:=rousS p.rous ++ lineS (unsWs p.uns)
def allR {α β} (f:α→Option β):List α→Option (List β)
 |[]=>some []
 |a :: l=>match f a with
  |none=>none
  |some b=>match allR f l with
   |none=>none
   |some bs=>some (b :: bs)
def numR (s:Str):Option Int:=if numE s=0 then some (numV s) else none
def restOK (s:Str):Bool:=!s.isEmpty && s.all fun c=>c == 121 || c == 110
def restsR (s:Str):Option (List Bool):=if s=[46] then some [] else if restOK s=true then some (s.map fun c=>c == 121) else none
def visR (s:Str):Option (Int × Bool):=match s with
 |[]=>none
 |c :: t=>if (c=43∨c=45)∧numE t=0 then some (numV t,c == 45) else none
def rouR (ws:List Str):Option RouV:=match ws with
 |a :: b :: c :: d :: vs=>if a=routeW∧numE b=0∧numE c=0 then
   match restsR d,allR visR vs with
   |some r,some v=>some ⟨numV b,numV c,r,v⟩
   |_,_=>none
  else none
 |_=>none
def unsR (ws:List Str):Option (List Int):=match ws with
 |a :: vs=>if a=unsW then allR numR vs else none
 |[]=>none
noncomputable def planG (acc:List RouV) (n:Nat):List Str→Bool→PlanV × Nat × Int
 |[],_=>(⟨[],[]⟩,n,3)
 |l :: ls,t=>if wordsE l=0 then match unsR (wordsL l) with
   |some u=>if ls=[]∧t=false then (⟨acc,u⟩,0,0) else (⟨[],[]⟩,n,3)
   |none=>match rouR (wordsL l) with
    |some r=>planG (acc ++ [r]) (n+1) ls t
    |none=>(⟨[],[]⟩,n,3)
  else (⟨[],[]⟩,n,3)
def unl (ls:List Str):Str:=ls.flatMap fun l=>l ++ [10]
structure LinesOf (s:Str) (ls:List Str) (r:Str):Prop where
 eq:s=unl ls ++ r
 no:∀ l ∈ ls,∀ c ∈ l,c≠10
 tl:∀ c ∈ r,c≠10
def linesG:Str→List Str × Str
 |[]=>([],[])
 |c :: s=>if c=10 then ([] :: (linesG s).1,(linesG s).2) else match (linesG s).1 with
  |[]=>([],c :: (linesG s).2)
  |l :: ls=>((c :: l) :: ls,(linesG s).2)
theorem linesG_of (s:Str):LinesOf s (linesG s).1 (linesG s).2:=by
 induction s with
 |nil=>exact ⟨rfl,by simp [linesG],by simp [linesG]⟩
 |cons c s ih =>
  unfold linesG
  by_cases hc:c=10
  ·rw [if_pos hc]
   refine ⟨?_,?_,ih.tl⟩
   ·show c :: s=unl ([] :: (linesG s).1) ++ _
    rw [hc]
    show 10 :: s=10 :: (unl (linesG s).1 ++ (linesG s).2)
    rw [← ih.eq]
   ·intro l hl
    rcases List.mem_cons.1 hl with rfl | hl
    ·intro c hc;cases hc
    ·exact ih.no l hl
  ·rw [if_neg hc]
   cases h:(linesG s).1 with
   |nil =>
    have he:=ih.eq
    rw [h] at he
    refine ⟨?_,fun l hl=>absurd hl (by simp),fun d hd=>?_⟩
    ·show c :: s=c :: (linesG s).2
     rw [show (linesG s).2=unl [] ++ (linesG s).2 from rfl,← he]
    ·rcases List.mem_cons.1 hd with rfl | hd
     ·exact hc
     ·exact ih.tl d hd
   |cons l ls =>
    have he:=ih.eq
    rw [h] at he
    refine ⟨?_,fun m hm=>?_,ih.tl⟩
    ·show c :: s=c :: (unl (l :: ls) ++ (linesG s).2)
     rw [← he]
    ·rcases List.mem_cons.1 hm with rfl | hm
     ·intro d hd
      rcases List.mem_cons.1 hd with rfl | hd
      ·exact hc
      ·exact ih.no l (by rw [h];simp) d hd
     ·exact ih.no m (by rw [h];simp [hm])
theorem first_eq {l l' x y:Str} (h1:∀ c ∈ l,c≠10) (h2:∀ c ∈ l',c≠10) (h:l ++ 10 :: x=l' ++ 10 :: y):l=l'∧x=y:=by
 induction l generalizing l' with
 |nil =>
  cases l' with
  |nil=>exact ⟨rfl,by simpa using h⟩
  |cons b l'=>exact absurd (by injection h with h _;exact h.symm) (h2 b (by simp))
 |cons a l ih =>
  cases l' with
  |nil=>exact absurd (by injection h) (h1 a (by simp))
  |cons b l' =>
   injection h with e h
   obtain ⟨e1,e2⟩:=ih (fun c hc=>h1 c (by simp [hc])) (fun c hc=>h2 c (by simp [hc])) h
   exact ⟨by rw [e,e1],e2⟩
theorem LinesOf.uniq {s:Str} {ls ls':List Str} {r r':Str} (h:LinesOf s ls r) (h':LinesOf s ls' r'):ls=ls'∧r=r':=by
 induction ls generalizing s ls' with
 |nil =>
  cases ls' with
  |nil=>exact ⟨rfl,by have h1:=h.eq;rw [h'.eq] at h1;exact h1.symm⟩
  |cons l' ls' =>
   have h1:=h.eq
   rw [h'.eq] at h1
   exact absurd rfl (h.tl 10 (by rw [show r=unl [] ++ r from rfl,← h1];simp [unl]))
 |cons l ls ih =>
  cases ls' with
  |nil =>
   have h1:=h'.eq
   rw [h.eq] at h1
   exact absurd rfl (h'.tl 10 (by rw [show r'=unl [] ++ r' from rfl,← h1];simp [unl]))
  |cons l' ls' =>
   have h1:=h.eq
   rw [h'.eq] at h1
   have h2:l ++ 10 :: (unl ls ++ r)=l' ++ 10 :: (unl ls' ++ r'):=by
    have e1:∀ (l:Str) (ls:List Str) (r:Str),unl (l :: ls) ++ r=l ++ 10 :: (unl ls ++ r):=fun l ls r=>by simp [unl]
    rw [← e1,← e1];exact h1.symm
   obtain ⟨e1,e2⟩:=first_eq (h.no l (by simp)) (h'.no l' (by simp)) h2
   obtain ⟨e3,e4⟩:=ih (s:=unl ls ++ r) (ls':=ls') ⟨rfl,fun m hm=>h.no m (by simp [hm]),h.tl⟩ ⟨e2,fun m hm=>h'.no m (by simp [hm]),h'.tl⟩
   exact ⟨by rw [e1,e3],e4⟩
theorem lines_uniq {s:Str} {ls:List Str} {r:Str} (h:LinesOf s ls r):linesG s=(ls,r):=by
 obtain ⟨e1,e2⟩:=(linesG_of s).uniq h
 exact Prod.ext e1 e2
noncomputable def planR (s:Str):PlanV × Nat × Int:=if s.length > 65536 then (⟨[],[]⟩,0,4) else planG [] 1 (linesG s).1 (!(linesG s).2.isEmpty)
def cutS (c:Int × Int × Int):Str:=lineS [cutW,decI c.1,decI c.2.1,decI c.2.2]
def dualS (d:Str):Str:=lineS [dualW,d]
def foreign (n:NodeV):Bool:=if n.leaf then !(n.ck == 0 && n.ca == 0 && n.cb == 0 && n.cn == 0) || n.yes != 0 || n.no != 0 else n.kind != 0 || !n.cuts.isEmpty || !n.dual.isEmpty
def nodeS (n:NodeV):Str:=if n.leaf then lineS [leafW,decI n.kind,decI n.cuts.length,decI n.dual.length] ++ n.cuts.flatMap cutS ++ n.dual.flatMap dualS
 else lineS [nodeW,decI n.ck,decI n.ca,decI n.cb,decI n.cn,decI n.yes,decI n.no]
def headS (p:ProofV):Str:=if p.none then lineS [proofW,noneW] else lineS [proofW,planW,quote (planS p.plan)]
def nodesE:List NodeV→Int
 |[]=>0
 |n :: l=>if foreign n=true then 2 else if n.dual.all rightQ=true then nodesE l else 3
def proofS (p:ProofV):Str:=headS p ++ p.nodes.flatMap nodeS ++ lineS [endW]
def printR (p:ProofV):Str × Int :=
 if p.nodes.length > 1024 then ([],4) else if p.none=true∧¬ (p.plan.rous=[]∧p.plan.uns=[]) then ([],2)
 else if nodesE p.nodes≠0 then ([],nodesE p.nodes) else if (proofS p).length > 65536 then ([],4) else (proofS p,0)
def numsR (ws:List Str) (word:Str) (many:Nat):Option (List Int):=match ws with
 |a :: vs=>if vs.length=many∧a=word then allR numR vs else none
 |[]=>none
noncomputable def lineN (l word:Str) (many:Nat):Option (List Int):=if wordsE l=0 then numsR (wordsL l) word many else none
noncomputable def cutR (l:Str):Option (Int × Int × Int):=match lineN l cutW 3 with
 |some [a,b,c]=>some (a,b,c)
 |_=>none
noncomputable def dualR (l:Str):Option Str:=if wordsE l=0 then match wordsL l with
  |[a,b]=>if a=dualW∧rightQ b=true then some b else none
  |_=>none
 else none
def manyA {α} (f:Str→Option α) (acc:List α):Nat→List Str→Nat→Option (List α) × List Str × Nat
 |0,ls,n=>(some acc,ls,n)
 |_+1,[],n=>(none,[],n+1)
 |k+1,l :: ls,n=>match f l with
  |none=>(none,ls,n+1)
  |some c=>manyA f (acc ++ [c]) k ls (n+1)
noncomputable def leafA (k a b:Int) (ls:List Str) (n:Nat):Option NodeV × List Str × Nat :=
 if a<0∨b<0 then (none,ls,n) else match manyA cutR [] a.toNat ls n with
  |(none,ls1,n1)=>(none,ls1,n1)
  |(some cs,ls1,n1)=>match manyA dualR [] b.toNat ls1 n1 with
   |(none,ls2,n2)=>(none,ls2,n2)
   |(some ds,ls2,n2)=>(some ⟨true,k,cs,ds,0,0,0,0,0,0⟩,ls2,n2)
noncomputable def nodeR (l:Str) (ls:List Str) (n:Nat):Option NodeV × List Str × Nat:=match lineN l leafW 3 with
 |some [k,a,b]=>leafA k a b ls n
 |_=>match lineN l nodeW 6 with
  |some [k,a,b,c,y,z]=>(some ⟨false,0,[],[],k,a,b,c,y,z⟩,ls,n)
  |_=>(none,ls,n)
noncomputable def begins (l:Str):Bool:=match lineN l leafW 3 with
 |some [_,a,b]=>decide (0≤a) && decide (0≤b)
 |_=>(lineN l nodeW 6).isSome
noncomputable def parseF:Nat→List NodeV→List Str→Bool→Nat→List NodeV × Nat × Int
 |0,_,_,_,_=>([],0,3)
 |_+1,_,[],_,n=>([],n+1,3)
 |f+1,nd,l :: ls,t,n=>if l=endW then (if ls=[]∧t=false then (nd,0,0) else ([],n+2,3))
  else if nd.length=1024∧begins l=true then ([],n+1,4)
  else match nodeR l ls (n+1) with
   |(none,_,n1)=>([],n1,3)
   |(some x,ls1,n1)=>parseF f (nd ++ [x]) ls1 t n1
noncomputable def headR (l:Str):Option (Bool × PlanV):=if wordsE l=0 then match wordsL l with
  |[a,b]=>if a=proofW∧b=noneW then some (true,⟨[],[]⟩) else none
  |[a,b,c]=>if a=proofW∧b=planW∧unqE c=0∧(planR (unqS c)).2.2=0∧planS (planR (unqS c)).1=unqS c then some (false,(planR (unqS c)).1) else none
  |_=>none
 else none
noncomputable def parseR (s:Str):ProofV × Nat × Int:=if s.length > 65536 then (⟨false,⟨[],[]⟩,[]⟩,0,4) else match (linesG s).1 with
 |[]=>(⟨false,⟨[],[]⟩,[]⟩,1,3)
 |l :: ls=>match headR l with
  |none=>(⟨false,⟨[],[]⟩,[]⟩,1,3)
  |some h=>match parseF (ls.length+1) [] ls (!(linesG s).2.isEmpty) 1 with
   |(nd,at_,e)=>if e=0 then (⟨h.1,h.2,nd⟩,at_,e) else (⟨false,⟨[],[]⟩,[]⟩,at_,e)
end Pf
end Go.Proofs.YtjcekdiocliddaaGreatDoor
namespace Go.Proofs.YtjcekdiocliddaaGreatDoor
namespace Pf
open Num Txt
set_option linter.unusedVariables false
theorem dig_wch {c:UInt8} (h:isDig c=true):wch c=true:=by
 unfold isDig at h;unfold wch
 simp only [Bool.and_eq_true,decide_eq_true_eq] at h
 simp only [Bool.and_eq_true,decide_eq_true_eq,Bool.not_eq_true',beq_eq_false_iff_ne]
 refine ⟨⟨by omega,by omega⟩,fun e=>?_⟩
 subst e;exact absurd h.1 (by decide)
theorem word_dec (n:Nat):isWord (dec n)=true:=by
 unfold isWord
 simp only [Bool.and_eq_true,Bool.not_eq_true',List.isEmpty_eq_false_iff]
 exact ⟨dec_ne_nil n,List.all_eq_true.2 fun c hc=>dig_wch (List.all_eq_true.1 (dec_all n) c hc)⟩
theorem word_app {a b:Str} (ha:isWord a=true) (hb:b.all wch=true):isWord (a ++ b)=true:=by
 unfold isWord at ha ⊢
 simp only [Bool.and_eq_true,Bool.not_eq_true',List.isEmpty_eq_false_iff] at ha ⊢
 exact ⟨by simp [ha.1],by rw [List.all_append,ha.2,hb];rfl⟩
theorem word_all {a:Str} (h:isWord a=true):a.all wch=true:=by unfold isWord at h;simp only [Bool.and_eq_true] at h;exact h.2
theorem word_cons {c:UInt8} {b:Str} (hc:wch c=true) (hb:b.all wch=true):isWord (c :: b)=true:=by unfold isWord;simp [hc,hb]
theorem word_decI (z:Int):isWord (decI z)=true:=by
 unfold decI
 split
 ·exact word_cons (by decide) (word_all (word_dec _))
 ·exact word_dec _
theorem word_rats (s:Str) (h:rightQ s=true):isWord s=true:=by
 obtain ⟨n,d,_,_,_,_,rfl⟩:=rightQ_out h
 unfold ratS
 split
 ·exact word_decI n
 ·refine word_app (word_decI n) ?_
  rw [List.all_cons,word_all (word_dec d)];decide
theorem word_rests (l:List Bool):isWord (restsW l)=true:=by
 unfold restsW
 by_cases h:l=[]
 ·rw [if_pos h];decide
 ·rw [if_neg h]
  unfold isWord
  simp only [Bool.and_eq_true,Bool.not_eq_true',List.isEmpty_eq_false_iff]
  refine ⟨by simpa using h,List.all_eq_true.2 fun c hc=>?_⟩
  obtain ⟨b,_,rfl⟩:=List.mem_map.1 hc
  cases b <;> decide
theorem word_vis (v:Int × Bool):isWord (visW v)=true:=by
 unfold visW
 refine word_cons ?_ (word_all (word_decI _))
 split <;> decide
theorem words_line {ws:List Str} (h:∀ p ∈ ws,isPart p):wordsL (joinP ws)=ws∧wordsE (joinP ws)=0:=words_ok ⟨h,rfl⟩
theorem words_eq {l:Str} (h:wordsE l=0):lineOK l (wordsL l):=by
 by_cases e:∃ ps,lineOK l ps
 ·obtain ⟨ps,hp⟩:=e
  rw [(words_ok hp).1];exact hp
 ·have:=(words_no (s:=l) fun ps hp=>e ⟨ps,hp⟩).2
  rw [this] at h;exact absurd h (by decide)
theorem form_no (c:UInt8):∀ d ∈ form c,d≠10:=by
 intro d hd
 unfold form at hd
 have hx:∀ n,n<16→hexd n≠10:=by decide
 split at hd
 ·rename_i h
  rcases h with h | h <;> subst h <;> simp at hd <;> rcases hd with rfl | rfl <;> decide
 ·split at hd
  ·simp at hd;rcases hd with rfl | rfl <;> decide
  ·split at hd
   ·have h1:c.toNat<256:=c.toNat_lt
    simp at hd
    rcases hd with rfl | rfl | rfl | rfl
    ·decide
    ·decide
    ·exact hx _ (by omega)
    ·exact hx _ (by omega)
   ·rename_i h2 h3
    simp at hd;subst hd
    exact h2
theorem part_no {p:Str} (h:isPart p):∀ c ∈ p,c≠10:=by
 rcases h with h | ⟨t,rfl⟩
 ·intro c hc e
  have:=List.all_eq_true.1 (word_all h) c hc
  rw [e] at this;exact absurd this (by decide)
 ·intro c hc
  unfold quote forms at hc
  simp only [List.mem_append,List.mem_cons,List.mem_flatMap,List.not_mem_nil,or_false] at hc
  rcases hc with (rfl | ⟨d,_,hd⟩) | rfl
  ·decide
  ·exact form_no d c hd
  ·decide
theorem join_no {ws:List Str} (h:∀ p ∈ ws,isPart p):∀ c ∈ joinP ws,c≠10:=by
 induction ws with
 |nil=>intro c hc;exact absurd hc (by simp [joinP])
 |cons p r ih =>
  intro c hc
  rw [joinP_cons] at hc
  split at hc
  ·exact part_no (h p (by simp)) c hc
  ·rcases List.mem_append.1 hc with hc | hc
   ·exact part_no (h p (by simp)) c hc
   ·rcases List.mem_cons.1 hc with rfl | hc
    ·decide
    ·exact ih (fun q hq=>h q (by simp [hq])) c hc
theorem allR_some {α β} {f:α→Option β}:∀ {l:List α} {bs:List β},allR f l=some bs→bs.length=l.length∧∀ i (h:i<l.length) (h2:i<bs.length),f l[i]=some bs[i]
 |[],bs,h=>by
  unfold allR at h;injection h with h;subst h
  exact ⟨rfl,fun i hi=>absurd hi (Nat.not_lt_zero _)⟩
 |a :: l,bs,h=>by
  unfold allR at h
  cases hf:f a with
  |none=>rw [hf] at h;cases h
  |some b =>
   rw [hf] at h
   cases hr:allR f l with
   |none=>rw [hr] at h;cases h
   |some cs =>
    rw [hr] at h;injection h with h;subst h
    obtain ⟨h1,h2⟩:=allR_some hr
    refine ⟨by simp [h1],fun i hi hi2=>?_⟩
    cases i with
    |zero=>exact hf
    |succ i=>exact h2 i (by simpa using hi) (by simpa using hi2)
theorem allR_map {α β γ} {f:α→Option β} {g:γ→α} {h:γ→β} {l:List γ} (hf:∀ x ∈ l,f (g x)=some (h x)):allR f (l.map g)=some (l.map h):=by
 induction l with
 |nil=>rfl
 |cons a l ih =>
  rw [List.map_cons];unfold allR
  rw [hf a (by simp),ih fun x hx=>hf x (by simp [hx])];rfl
theorem allR_num {l:List Str} {ks:List Int} (h:allR numR l=some ks):l=ks.map decI∧∀ k ∈ ks,fits k:=by
 obtain ⟨h1,h2⟩:=allR_some h
 have h3:∀ i (hi:i<ks.length),numR (l[i]'(by omega))=some ks[i]:=fun i hi=>h2 i (by omega) hi
 have h4:∀ i (hi:i<ks.length),l[i]'(by omega)=decI ks[i]∧fits ks[i]:=fun i hi=>by
  have:=h3 i hi
  unfold numR at this
  split at this
  ·rename_i hz
   injection this with this
   have:=num_zero hz
   rename_i e
   rw [e] at this
   exact ⟨this.1.symm,this.2⟩
  ·cases this
 refine ⟨List.ext_getElem (by rw [List.length_map,h1]) fun i hi hi2=>?_,fun k hk=>?_⟩
 ·rw [List.getElem_map];exact (h4 i (by omega)).1
 ·obtain ⟨i,hi,rfl⟩:=List.getElem_of_mem hk
  exact (h4 i hi).2
theorem allR_decI {ks:List Int} (h:∀ k ∈ ks,fits k):allR numR (ks.map decI)=some ks:=by
 have:=allR_map (f:=numR) (g:=decI) (h:=id) (l:=ks) fun k hk=>by
  unfold numR
  obtain ⟨h1,h2⟩:=num_decI (h k hk)
  rw [if_pos h1,h2];rfl
 rw [List.map_id] at this;exact this
theorem numsR_some {ws:List Str} {word:Str} {many:Nat} {ks:List Int} (h:numsR ws word many=some ks):ws=word :: ks.map decI∧ks.length=many∧∀ k ∈ ks,fits k:=by
 unfold numsR at h
 cases ws with
 |nil=>cases h
 |cons a vs =>
  simp only at h
  split at h
  ·rename_i hc
   obtain ⟨h1,h2⟩:=allR_num h
   refine ⟨by rw [hc.2,h1],?_,h2⟩
   rw [← hc.1,h1,List.length_map]
  ·cases h
theorem lineN_some {l word:Str} {many:Nat} {ks:List Int} (h:lineN l word many=some ks):l=joinP (word :: ks.map decI)∧ks.length=many∧∀ k ∈ ks,fits k:=by
 unfold lineN at h
 split at h
 ·rename_i he
  obtain ⟨h1,h2⟩:=numsR_some h
  exact ⟨by rw [← h1];exact (words_eq he).2,h2⟩
 ·cases h
theorem parts_nums {word:Str} (hw:isWord word=true) (ks:List Int):∀ p ∈ word :: ks.map decI,isPart p:=by
 intro p hp
 rcases List.mem_cons.1 hp with rfl | hp
 ·exact .inl hw
 ·obtain ⟨k,_,rfl⟩:=List.mem_map.1 hp
  exact .inl (word_decI k)
theorem lineN_of {word:Str} (hw:isWord word=true) {ks:List Int} (hf:∀ k ∈ ks,fits k):lineN (joinP (word :: ks.map decI)) word ks.length=some ks:=by
 obtain ⟨h1,h2⟩:=words_line (parts_nums hw ks)
 unfold lineN
 rw [if_pos h2,h1];unfold numsR
 simp only
 rw [if_pos ⟨List.length_map _,trivial⟩,allR_decI hf]
theorem lineN_other {w1 w2:Str} (hw:isWord w1=true) (hne:w1≠w2) (ks:List Int) (many:Nat):lineN (joinP (w1 :: ks.map decI)) w2 many=none:=by
 obtain ⟨h1,h2⟩:=words_line (parts_nums hw ks)
 unfold lineN
 rw [if_pos h2,h1];unfold numsR
 simp only
 rw [if_neg fun h=>hne h.2]
theorem cutR_some {l:Str} {c:Int × Int × Int} (h:cutR l=some c):l ++ [10]=cutS c∧fits c.1∧fits c.2.1∧fits c.2.2:=by
 unfold cutR at h
 cases hl:lineN l cutW 3 with
 |none=>rw [hl] at h;cases h
 |some ks =>
  obtain ⟨h1,h2,h3⟩:=lineN_some hl
  match ks,h2 with
  |[a,b,d],_ =>
   rw [hl] at h;injection h with h;subst h
   refine ⟨?_,h3 a (by simp),h3 b (by simp),h3 d (by simp)⟩
   rw [h1];rfl
theorem cutR_of {c:Int × Int × Int} (h:fits c.1∧fits c.2.1∧fits c.2.2):cutR (joinP [cutW,decI c.1,decI c.2.1,decI c.2.2])=some c:=by
 have:=lineN_of (word:=cutW) (by decide) (ks:=[c.1,c.2.1,c.2.2]) (by simp;exact h)
 unfold cutR
 rw [show [cutW,decI c.1,decI c.2.1,decI c.2.2]=cutW :: [c.1,c.2.1,c.2.2].map decI from rfl,show (3:Nat)=[c.1,c.2.1,c.2.2].length from rfl,this]
theorem dualR_some {l d:Str} (h:dualR l=some d):l ++ [10]=dualS d∧rightQ d=true:=by
 unfold dualR at h
 split at h
 ·rename_i he
  have hw:=words_eq he
  split at h
  ·rename_i a b hab
   split at h
   ·rename_i hc
    injection h with h;subst h
    rw [hab] at hw
    refine ⟨?_,hc.2⟩
    rw [hw.2,hc.1];rfl
   ·cases h
  ·cases h
 ·cases h
theorem dualR_of {d:Str} (h:rightQ d=true):dualR (joinP [dualW,d])=some d:=by
 have hp:∀ p ∈ [dualW,d],isPart p:=fun p hp=>by
  simp at hp
  rcases hp with rfl | rfl
  ·exact .inl (by decide)
  ·exact .inl (word_rats _ h)
 obtain ⟨h1,h2⟩:=words_line hp
 unfold dualR
 rw [if_pos h2,h1]
 simp only
 rw [if_pos ⟨trivial,h⟩]
theorem manyA_some {α} {f:Str→Option α} {g:α→Str} (hf:∀ l c,f l=some c→l ++ [10]=g c):∀ (k:Nat) {acc:List α} {ls:List Str} {n:Nat} {out:List α} {ls1:List Str} {n1:Nat},manyA f acc k ls n=(some out,ls1,n1) →
  ∃ xs,out=acc ++ xs∧xs.length=k∧unl ls=xs.flatMap g ++ unl ls1∧(∀ x ∈ xs,∃ l,f l=some x)∧ls1.length≤ls.length
 |0,acc,ls,n,out,ls1,n1,h=>by
  unfold manyA at h
  injection h with h1 h2
  injection h1 with h1;injection h2 with h2 _
  exact ⟨[],by rw [h1,List.append_nil],rfl,by rw [h2];rfl,fun x hx=>absurd hx (by simp),by rw [h2];exact Nat.le_refl _⟩
 |k+1,acc,[],n,out,ls1,n1,h=>by
  unfold manyA at h
  injection h with h1 _;cases h1
 |k+1,acc,l :: ls,n,out,ls1,n1,h=>by
  unfold manyA at h
  cases hl:f l with
  |none=>rw [hl] at h;injection h with h1 _;cases h1
  |some c =>
   rw [hl] at h
   obtain ⟨xs,h1,h2,h3,h4,h5⟩:=manyA_some hf k h
   refine ⟨c :: xs,by rw [h1];simp,by simp [h2],?_,fun x hx=>?_,by simp;omega⟩
   ·show (l ++ [10]) ++ unl ls=_
    rw [hf l c hl,h3];simp
   ·rcases List.mem_cons.1 hx with rfl | hx
    ·exact ⟨l,hl⟩
    ·exact h4 x hx
theorem manyA_of {α} {f:Str→Option α} {g:α→Str} {xs:List α} (hf:∀ x ∈ xs,f (g x)=some x):∀ {acc:List α} {ls:List Str} {n:Nat},manyA f acc xs.length (xs.map g ++ ls) n=(some (acc ++ xs),ls,n+xs.length):=by
 induction xs with
 |nil=>intro acc ls n;simp [manyA]
 |cons x xs ih =>
  intro acc ls n
  rw [List.map_cons,List.cons_append,List.length_cons];unfold manyA
  rw [hf x (by simp)]
  simp only
  rw [ih fun y hy=>hf y (by simp [hy])]
  simp;omega
theorem manyA_len {α} {f:Str→Option α}:∀ (k:Nat) (acc:List α) (ls:List Str) (n:Nat),(manyA f acc k ls n).2.1.length≤ls.length
 |0,acc,ls,n=>by unfold manyA;exact Nat.le_refl _
 |k+1,acc,[],n=>by unfold manyA;exact Nat.le_refl _
 |k+1,acc,l :: ls,n=>by
  unfold manyA
  cases f l with
  |none=>simp
  |some c=>have:=manyA_len k (f:=f) (acc ++ [c]) ls (n+1);simp only [List.length_cons];omega
def nodeOK (x:NodeV):Prop:=foreign x=false∧x.dual.all rightQ=true
theorem leafA_some {k a b:Int} {ls:List Str} {n:Nat} {x:NodeV} {ls1:List Str} {n1:Nat} (h:leafA k a b ls n=(some x,ls1,n1)) :
  lineS [leafW,decI k,decI a,decI b] ++ unl ls=nodeS x ++ unl ls1∧nodeOK x∧0≤a∧0≤b∧ls1.length≤ls.length:=by
 unfold leafA at h
 split at h
 ·injection h with h _;cases h
 rename_i hab
 have ha:0≤a:=by omega
 have hb:0≤b:=by omega
 cases hc:manyA cutR [] a.toNat ls n with
 |mk o1 r1 =>
  obtain ⟨l1,m1⟩:=r1
  rw [hc] at h
  cases o1 with
  |none=>injection h with h _;cases h
  |some cs =>
   simp only at h
   cases hd:manyA dualR [] b.toNat l1 m1 with
   |mk o2 r2 =>
    obtain ⟨l2,m2⟩:=r2
    rw [hd] at h
    cases o2 with
    |none=>injection h with h _;cases h
    |some ds =>
     simp only at h
     injection h with h h';injection h with h;injection h' with h' _
     subst h h'
     obtain ⟨xs,e1,e2,e3,_,e5⟩:=manyA_some (g:=cutS) (fun l c h=>(cutR_some h).1) _ hc
     obtain ⟨ys,f1,f2,f3,f4,f5⟩:=manyA_some (g:=dualS) (fun l c h=>(dualR_some h).1) _ hd
     rw [List.nil_append] at e1 f1
     subst e1 f1
     refine ⟨?_,⟨rfl,?_⟩,ha,hb,by omega⟩
     ·unfold nodeS
      rw [if_pos rfl,e3,f3]
      show _=lineS [leafW,decI k,decI cs.length,decI ds.length] ++ _ ++ _ ++ _
      rw [e2,f2,Int.toNat_of_nonneg ha,Int.toNat_of_nonneg hb]
      simp only [List.append_assoc]
     ·refine List.all_eq_true.2 fun d hd=>?_
      obtain ⟨l,hl⟩:=f4 d hd
      exact (dualR_some hl).2
theorem nodeR_some {l:Str} {ls:List Str} {n:Nat} {x:NodeV} {ls1:List Str} {n1:Nat} (h:nodeR l ls n=(some x,ls1,n1)) :
  unl (l :: ls)=nodeS x ++ unl ls1∧nodeOK x∧begins l=true∧ls1.length≤ls.length:=by
 unfold nodeR at h
 unfold begins
 cases hl:lineN l leafW 3 with
 |some ks =>
  obtain ⟨h1,h2,_⟩:=lineN_some hl
  match ks,h2 with
  |[k,a,b],_ =>
   rw [hl] at h
   obtain ⟨e1,e2,e3,e4,e5⟩:=leafA_some h
   refine ⟨?_,e2,by simp [e3,e4],e5⟩
   rw [← e1];show (l ++ [10]) ++ unl ls=_
   rw [h1];rfl
 |none =>
  rw [hl] at h
  simp only at h ⊢
  cases hn:lineN l nodeW 6 with
  |none=>rw [hn] at h;injection h with h _;cases h
  |some ks =>
   obtain ⟨h1,h2,_⟩:=lineN_some hn
   match ks,h2 with
   |[k,a,b,c,y,z],_ =>
    rw [hn] at h
    simp only at h
    injection h with h h';injection h with h;injection h' with h' _
    subst h h'
    refine ⟨?_,⟨rfl,rfl⟩,rfl,Nat.le_refl _⟩
    show (l ++ [10]) ++ unl ls=_
    rw [h1];rfl
theorem parseF_some:∀ (f:Nat) {nd:List NodeV} {ls:List Str} {t:Bool} {n:Nat} {out:List NodeV} {at_:Nat},parseF f nd ls t n=(out,at_,0)→nd.length≤1024 →
  ∃ xs,out=nd ++ xs∧unl ls=xs.flatMap nodeS ++ lineS [endW]∧t=false∧(∀ x ∈ xs,nodeOK x)∧out.length≤1024∧at_=0
 |0,nd,ls,t,n,out,at_,h,_=>by unfold parseF at h;injection h with _ h;injection h with _ h;exact absurd h (by decide)
 |f+1,nd,[],t,n,out,at_,h,_=>by unfold parseF at h;injection h with _ h;injection h with _ h;exact absurd h (by decide)
 |f+1,nd,l :: ls,t,n,out,at_,h,hnd=>by
  unfold parseF at h
  by_cases hl:l=endW
  ·rw [if_pos hl] at h
   by_cases hc:ls=[]∧t=false
   ·rw [if_pos hc] at h
    injection h with h h2;injection h2 with h2 _
    refine ⟨[],by rw [← h];simp,?_,hc.2,fun x hx=>absurd hx (by simp),by rw [← h];exact hnd,h2.symm⟩
    rw [hc.1,hl];rfl
   ·rw [if_neg hc] at h;injection h with _ h;injection h with _ h;exact absurd h (by decide)
  ·rw [if_neg hl] at h
   by_cases hb:nd.length=1024∧begins l=true
   ·rw [if_pos hb] at h;injection h with _ h;injection h with _ h;exact absurd h (by decide)
   ·rw [if_neg hb] at h
    cases hr:nodeR l ls (n+1) with
    |mk o r =>
     obtain ⟨ls1,n1⟩:=r
     rw [hr] at h
     cases o with
     |none=>injection h with _ h;injection h with _ h;exact absurd h (by decide)
     |some x =>
      simp only at h
      obtain ⟨e1,e2,e3,_⟩:=nodeR_some hr
      have hlt:nd.length<1024:=by
       rcases Nat.lt_or_ge nd.length 1024 with h1 | h1
       ·exact h1
       ·exact absurd ⟨by omega,e3⟩ hb
      obtain ⟨xs,g1,g2,g3,g4,g5,g6⟩:=parseF_some f h (by simp;omega)
      refine ⟨x :: xs,by rw [g1];simp,?_,g3,fun y hy=>?_,g5,g6⟩
      ·rw [e1,g2];simp
      ·rcases List.mem_cons.1 hy with rfl | hy
       ·exact e2
       ·exact g4 y hy
theorem nodesE_zero {l:List NodeV}:nodesE l=0↔∀ x ∈ l,nodeOK x:=by
 induction l with
 |nil=>exact ⟨fun _ x hx=>absurd hx (by simp),fun _=>rfl⟩
 |cons a l ih =>
  unfold nodesE
  constructor
  ·intro h x hx
   split at h
   ·exact absurd h (by decide)
   ·rename_i h1
    split at h
    ·rename_i h2
     rcases List.mem_cons.1 hx with rfl | hx
     ·exact ⟨by simpa using h1,h2⟩
     ·exact ih.1 h x hx
    ·exact absurd h (by decide)
  ·intro h
   obtain ⟨h1,h2⟩:=h a (by simp)
   rw [h1,h2,if_neg (by decide),if_pos rfl]
   exact ih.2 fun x hx=>h x (by simp [hx])
theorem headR_some {l:Str} {h:Bool × PlanV} (hh:headR l=some h):(∀ nd,headS ⟨h.1,h.2,nd⟩=l ++ [10])∧(h.1=true→h.2=⟨[],[]⟩):=by
 unfold headR at hh
 split at hh
 ·rename_i he
  have hw:=words_eq he
  split at hh
  ·rename_i a b hab
   split at hh
   ·rename_i hc
    injection hh with hh;subst hh
    rw [hab] at hw
    refine ⟨fun nd=>?_,fun _=>rfl⟩
    rw [hw.2,hc.1,hc.2];rfl
   ·cases hh
  ·rename_i a b c hab
   split at hh
   ·rename_i hc
    injection hh with hh;subst hh
    rw [hab] at hw
    refine ⟨fun nd=>?_,fun h=>absurd h Bool.false_ne_true⟩
    obtain ⟨c1,c2,c3,c4,c5⟩:=hc
    obtain ⟨t,rfl⟩:=unqE_zero c3
    rw [hw.2,c1,c2]
    unfold headS
    rw [if_neg Bool.false_ne_true]
    show lineS [proofW,planW,quote (planS (planR (unqS (quote t))).1)]=_
    rw [c5,unqS_quote];rfl
   ·cases hh
  ·cases hh
 ·cases hh
theorem parse_print {s:Str} (h:(parseR s).2.2=0):printR (parseR s).1=(s,0)∧(parseR s).2.1=0:=by
 unfold parseR at h ⊢
 split at h
 ·exact absurd h (by decide)
 rename_i hl
 rw [if_neg hl]
 have hL:=linesG_of s
 cases hls:(linesG s).1 with
 |nil=>rw [hls] at h;exact absurd (show (3:Int)=0 from h) (by decide)
 |cons l ls =>
  rw [hls] at h hL
  simp only at h ⊢
  cases hh:headR l with
  |none=>rw [hh] at h;exact absurd (show (3:Int)=0 from h) (by decide)
  |some hd =>
   rw [hh] at h
   simp only at h ⊢
   cases hp:parseF (ls.length+1) [] ls (!(linesG s).2.isEmpty) 1 with
   |mk nd r =>
    obtain ⟨at_,e⟩:=r
    rw [hp] at h
    simp only at h ⊢
    have he:e=0:=by
     by_cases h0:e=0
     ·exact h0
     ·rw [if_neg h0] at h;exact h
    subst he
    rw [if_pos rfl]
    obtain ⟨xs,h1,h2,h3,h4,h5,h6⟩:=parseF_some _ hp (by simp)
    rw [List.nil_append] at h1
    subst h1
    obtain ⟨hh1,hh2⟩:=headR_some hh
    have ht:(linesG s).2=[]:=by simpa using h3
    have hs:proofS ⟨hd.1,hd.2,nd⟩=s:=by
     have h7:=hL.eq
     rw [ht,List.append_nil] at h7
     unfold proofS
     show headS ⟨hd.1,hd.2,nd⟩ ++ nd.flatMap nodeS ++ _=s
     rw [hh1,h7,List.append_assoc,← h2];rfl
    refine ⟨?_,h6⟩
    show printR ⟨hd.1,hd.2,nd⟩=_
    unfold printR
    rw [if_neg (by show ¬ nd.length > 1024;omega),if_neg (fun hc=>hc.2 (by have:=hh2 hc.1;show hd.2.rous=[]∧hd.2.uns=[];rw [this];exact ⟨rfl,rfl⟩)),if_neg (by show ¬ nodesE nd≠0;rw [nodesE_zero.2 h4];simp),hs,if_neg hl]
end Pf
end Go.Proofs.YtjcekdiocliddaaGreatDoor
namespace Go.Proofs.YtjcekdiocliddaaGreatDoor
namespace Pf
open Num Txt
set_option linter.unusedVariables false
def cutL (c:Int × Int × Int):Str:=joinP [cutW,decI c.1,decI c.2.1,decI c.2.2]
def dualL (d:Str):Str:=joinP [dualW,d]
def leafL (n:NodeV):Str:=joinP [leafW,decI n.kind,decI n.cuts.length,decI n.dual.length]
def innL (n:NodeV):Str:=joinP [nodeW,decI n.ck,decI n.ca,decI n.cb,decI n.cn,decI n.yes,decI n.no]
def tailL (n:NodeV):List Str:=if n.leaf then n.cuts.map cutL ++ n.dual.map dualL else []
def firstL (n:NodeV):Str:=if n.leaf then leafL n else innL n
def nodeL (n:NodeV):List Str:=firstL n :: tailL n
theorem unl_append (a b:List Str):unl (a ++ b)=unl a ++ unl b:=by unfold unl;rw [List.flatMap_append]
theorem unl_map {α} (f:α→Str) (l:List α):unl (l.map f)=l.flatMap fun x=>f x ++ [10]:=by
 unfold unl
 induction l with
 |nil=>rfl
 |cons a l ih=>rw [List.map_cons,List.flatMap_cons,List.flatMap_cons,ih]
theorem unl_node (n:NodeV):unl (nodeL n)=nodeS n:=by
 unfold nodeL firstL tailL nodeS
 by_cases h:n.leaf=true
 ·rw [if_pos h,if_pos h,if_pos h]
  show leafL n ++ [10] ++ unl (n.cuts.map cutL ++ n.dual.map dualL)=_
  rw [unl_append,unl_map,unl_map,← List.append_assoc];rfl
 ·rw [if_neg h,if_neg h,if_neg h]
  show innL n ++ [10] ++ unl []=_
  rw [show unl []=([]:Str) from rfl,List.append_nil];rfl
structure NodeF (n:NodeV):Prop where
 kind:fits n.kind
 cuts:∀ c ∈ n.cuts,fits c.1∧fits c.2.1∧fits c.2.2
 cl:n.cuts.length≤1000000
 dl:n.dual.length≤1000000
 ck:fits n.ck
 ca:fits n.ca
 cb:fits n.cb
 cn:fits n.cn
 yes:fits n.yes
 no:fits n.no
theorem fits_nat {k:Nat} (h:k≤1000000):fits (k:Int):=by unfold fits;omega
theorem nodeOK_inner {n:NodeV} (h:nodeOK n) (hl:n.leaf=false):n=⟨false,0,[],[],n.ck,n.ca,n.cb,n.cn,n.yes,n.no⟩:=by
 have hf:=h.1
 unfold foreign at hf
 rw [hl,if_neg (by decide)] at hf
 simp only [Bool.or_eq_false_iff,bne_eq_false_iff_eq,Bool.not_eq_false',List.isEmpty_iff] at hf
 obtain ⟨leaf,kind,cuts,dual,ck,ca,cb,cn,yes,no⟩:=n
 simp only at hl hf
 obtain ⟨⟨h1,h2⟩,h3⟩:=hf
 subst hl h1 h2 h3
 rfl
theorem nodeOK_leaf {n:NodeV} (h:nodeOK n) (hl:n.leaf=true):n=⟨true,n.kind,n.cuts,n.dual,0,0,0,0,0,0⟩:=by
 have hf:=h.1
 unfold foreign at hf
 rw [hl,if_pos rfl] at hf
 simp only [Bool.or_eq_false_iff,bne_eq_false_iff_eq,Bool.not_eq_false',Bool.and_eq_true,beq_iff_eq] at hf
 obtain ⟨leaf,kind,cuts,dual,ck,ca,cb,cn,yes,no⟩:=n
 simp only at hl hf
 obtain ⟨⟨⟨⟨⟨h1,h2⟩,h3⟩,h4⟩,h5⟩,h6⟩:=hf
 subst hl h1 h2 h3 h4 h5 h6
 rfl
theorem lineN_leaf {n:NodeV} (h:NodeF n):lineN (leafL n) leafW 3=some [n.kind,(n.cuts.length:Int),(n.dual.length:Int)]:=by
 have:=lineN_of (word:=leafW) (by decide) (ks:=[n.kind,(n.cuts.length:Int),(n.dual.length:Int)]) (by
  intro k hk
  simp at hk
  rcases hk with rfl | rfl | rfl
  ·exact h.kind
  ·exact fits_nat h.cl
  ·exact fits_nat h.dl)
 exact this
theorem lineN_inn {n:NodeV} (h:NodeF n):lineN (innL n) leafW 3=none∧lineN (innL n) nodeW 6=some [n.ck,n.ca,n.cb,n.cn,n.yes,n.no]:=by
 refine ⟨lineN_other (w1:=nodeW) (by decide) (by decide) [n.ck,n.ca,n.cb,n.cn,n.yes,n.no] 3,?_⟩
 exact lineN_of (word:=nodeW) (by decide) (ks:=[n.ck,n.ca,n.cb,n.cn,n.yes,n.no]) (by
  intro k hk
  simp at hk
  rcases hk with rfl | rfl | rfl | rfl | rfl | rfl
  ·exact h.ck
  ·exact h.ca
  ·exact h.cb
  ·exact h.cn
  ·exact h.yes
  ·exact h.no)
theorem nodeR_of {n:NodeV} (h:nodeOK n) (hF:NodeF n) (ls:List Str) (k:Nat):nodeR (firstL n) (tailL n ++ ls) k=(some n,ls,k+(tailL n).length)∧begins (firstL n)=true:=by
 unfold firstL tailL
 cases hl:n.leaf with
 |true =>
  rw [if_pos rfl,if_pos rfl]
  unfold nodeR begins
  rw [lineN_leaf hF]
  simp only
  refine ⟨?_,by simp⟩
  unfold leafA
  rw [if_neg (by omega),Int.toNat_natCast,Int.toNat_natCast,List.append_assoc,manyA_of (f:=cutR) (g:=cutL) fun c hc=>cutR_of (hF.cuts c hc)]
  simp only
  rw [manyA_of (f:=dualR) (g:=dualL) fun d hd=>dualR_of (List.all_eq_true.1 h.2 d hd)]
  simp only [List.nil_append,List.length_append,List.length_map]
  rw [← nodeOK_leaf h hl,Nat.add_assoc]
 |false =>
  rw [if_neg (by decide),if_neg (by decide)]
  unfold nodeR begins
  obtain ⟨h1,h2⟩:=lineN_inn hF
  rw [h1,h2]
  simp only
  refine ⟨?_,rfl⟩
  rw [← nodeOK_inner h hl];rfl
theorem first_end {n:NodeV} (hF:NodeF n):firstL n≠endW:=by
 intro e
 have hw:wordsL endW=[endW]:=by
  have:=(words_line (ws:=[endW]) (fun p hp=>by simp at hp;subst hp;exact .inl (by decide))).1
  exact this
 unfold firstL at e
 cases hl:n.leaf with
 |true =>
  rw [hl,if_pos rfl] at e
  have:=lineN_leaf hF
  rw [e] at this
  unfold lineN at this
  rw [hw] at this
  split at this
  ·rw [show numsR [endW] leafW 3=none from by decide] at this;cases this
  ·cases this
 |false =>
  rw [hl,if_neg (by decide)] at e
  have:=(lineN_inn hF).2
  rw [e] at this
  unfold lineN at this
  rw [hw] at this
  split at this
  ·rw [show numsR [endW] nodeW 6=none from by decide] at this;cases this
  ·cases this
def nodesL (l:List NodeV):List Str:=l.flatMap nodeL
theorem unl_nodes (l:List NodeV):unl (nodesL l)=l.flatMap nodeS:=by
 induction l with
 |nil=>rfl
 |cons a l ih =>
  rw [show nodesL (a :: l)=nodeL a ++ nodesL l from rfl,unl_append,unl_node,ih];rfl
theorem parseF_many {xs:List NodeV}:∀ {f:Nat} {nd:List NodeV} {ls:List Str} {t:Bool} {n:Nat},(∀ x ∈ xs,nodeOK x∧NodeF x)→nd.length+xs.length≤1024→xs.length≤f →
  parseF f nd (nodesL xs ++ ls) t n=parseF (f - xs.length) (nd ++ xs) ls t (n+(nodesL xs).length):=by
 induction xs with
 |nil=>intro f nd ls t n _ _ _;simp [nodesL]
 |cons x xs ih =>
  intro f nd ls t n hx hl hf
  cases f with
  |zero=>simp at hf
  |succ f =>
   obtain ⟨h1,h2⟩:=hx x (by simp)
   obtain ⟨e1,e2⟩:=nodeR_of h1 h2 (nodesL xs ++ ls) (n+1)
   have e3:nodesL (x :: xs) ++ ls=firstL x :: (tailL x ++ (nodesL xs ++ ls)):=by
    show (nodeL x ++ nodesL xs) ++ ls=_
    unfold nodeL;simp
   have e4:(nodesL (x :: xs)).length=1+(tailL x).length+(nodesL xs).length:=by
    show (nodeL x ++ nodesL xs).length=_
    unfold nodeL;simp;omega
   simp only [List.length_cons] at hl hf
   rw [e3,parseF,if_neg (first_end h2),if_neg (by omega),e1]
   simp only
   rw [ih (fun y hy=>hx y (by simp [hy])) (by simp;omega) (by omega),e4]
   congr 1
   ·simp
   ·simp
   ·omega
theorem node_no (x:NodeV) (h:nodeOK x):∀ l ∈ nodeL x,∀ c ∈ l,c≠10:=by
 intro l hl
 unfold nodeL firstL tailL at hl
 have hd:∀ d ∈ x.dual,isPart d:=fun d hd=>.inl (word_rats _ (List.all_eq_true.1 h.2 d hd))
 rcases List.mem_cons.1 hl with rfl | hl
 ·split
  ·refine join_no fun p hp=>?_
   simp at hp
   rcases hp with rfl | rfl | rfl | rfl
   ·exact .inl (by decide)
   all_goals exact .inl (word_decI _)
  ·refine join_no fun p hp=>?_
   simp at hp
   rcases hp with rfl | rfl | rfl | rfl | rfl | rfl | rfl
   ·exact .inl (by decide)
   all_goals exact .inl (word_decI _)
 ·split at hl
  ·rcases List.mem_append.1 hl with hl | hl
   ·obtain ⟨c,_,rfl⟩:=List.mem_map.1 hl
    refine join_no fun p hp=>?_
    simp at hp
    rcases hp with rfl | rfl | rfl | rfl
    ·exact .inl (by decide)
    all_goals exact .inl (word_decI _)
   ·obtain ⟨d,h1,rfl⟩:=List.mem_map.1 hl
    refine join_no fun p hp=>?_
    simp at hp
    rcases hp with rfl | rfl
    ·exact .inl (by decide)
    ·exact hd _ h1
  ·exact absurd hl (by simp)
def headL (p:ProofV):Str:=if p.none then joinP [proofW,noneW] else joinP [proofW,planW,quote (planS p.plan)]
theorem headL_no (p:ProofV):∀ c ∈ headL p,c≠10:=by
 unfold headL
 split
 ·refine join_no fun q hq=>?_
  simp at hq
  rcases hq with rfl | rfl <;> exact .inl (by decide)
 ·refine join_no fun q hq=>?_
  simp at hq
  rcases hq with rfl | rfl | rfl
  ·exact .inl (by decide)
  ·exact .inl (by decide)
  ·exact .inr ⟨_,rfl⟩
theorem headS_L (p:ProofV):headS p=headL p ++ [10]:=by unfold headS headL;split <;> rfl
theorem proof_lines {p:ProofV} (h:∀ x ∈ p.nodes,nodeOK x):LinesOf (proofS p) (headL p :: (nodesL p.nodes ++ [endW])) []:=by
 refine ⟨?_,fun l hl=>?_,fun c hc=>absurd hc (by simp)⟩
 ·unfold proofS
  rw [headS_L,← unl_nodes,List.append_nil]
  show _=headL p ++ [10] ++ unl (nodesL p.nodes ++ [endW])
  rw [unl_append,← List.append_assoc];rfl
 ·rcases List.mem_cons.1 hl with rfl | hl
  ·exact headL_no p
  ·rcases List.mem_append.1 hl with hl | hl
   ·obtain ⟨x,hx,hl⟩:=List.mem_flatMap.1 hl
    exact node_no x (h x hx) l hl
   ·simp at hl;subst hl;decide
theorem headR_of {p:ProofV} (h:p.none=true∧p.plan=⟨[],[]⟩∨p.none=false∧(planR (planS p.plan)).2.2=0∧(planR (planS p.plan)).1=p.plan):headR (headL p)=some (p.none,p.plan):=by
 rcases h with ⟨h1,h2⟩ | ⟨h1,h2,h3⟩
 ·unfold headL
  rw [h1,if_pos rfl,h2]
  obtain ⟨e1,e2⟩:=words_line (ws:=[proofW,noneW]) (fun q hq=>by simp at hq;rcases hq with rfl | rfl <;> exact .inl (by decide))
  unfold headR
  rw [if_pos e2,e1]
  simp only
  rw [if_pos ⟨trivial,trivial⟩]
 ·unfold headL
  rw [h1,if_neg (by decide)]
  obtain ⟨e1,e2⟩:=words_line (ws:=[proofW,planW,quote (planS p.plan)]) (fun q hq=>by
   simp at hq
   rcases hq with rfl | rfl | rfl
   ·exact .inl (by decide)
   ·exact .inl (by decide)
   ·exact .inr ⟨_,rfl⟩)
  unfold headR
  rw [if_pos e2,e1]
  simp only
  rw [unqS_quote,unqE_quote,h3,if_pos ⟨trivial,trivial,rfl,h2,rfl⟩]
theorem nodesL_len (l:List NodeV):l.length≤(nodesL l).length:=by
 induction l with
 |nil=>exact Nat.le_refl _
 |cons a l ih =>
  rw [show nodesL (a :: l)=nodeL a ++ nodesL l from rfl,List.length_append]
  unfold nodeL;simp;omega
theorem print_parse {p:ProofV} (h:(printR p).2=0) (hF:∀ x ∈ p.nodes,NodeF x) (hk:p.none=true∨p.none=false∧(planR (planS p.plan)).2.2=0∧(planR (planS p.plan)).1=p.plan):parseR (printR p).1=(p,0,0):=by
 unfold printR at h ⊢
 split at h
 ·exact absurd h (by decide)
 rename_i h1
 split at h
 ·exact absurd h (by decide)
 rename_i h2
 split at h
 ·rename_i h3;exact absurd h h3
 rename_i h3
 split at h
 ·exact absurd h (by decide)
 rename_i h4
 rw [if_neg h1,if_neg h2,if_neg h3,if_neg h4]
 have hn:=nodesE_zero.1 (Decidable.not_not.1 h3)
 have hL:=lines_uniq (proof_lines hn)
 have hh:headR (headL p)=some (p.none,p.plan):=headR_of (by
  rcases hk with hk | hk
  ·have h5:p.plan.rous=[]∧p.plan.uns=[]:=Classical.byContradiction fun hc=>h2 ⟨hk,hc⟩
   exact .inl ⟨hk,by cases hp:p.plan with | mk a b=>rw [hp] at h5;simp only at h5;rw [h5.1,h5.2]⟩
  ·exact .inr hk)
 unfold parseR
 rw [if_neg h4,hL]
 simp only
 rw [hh]
 simp only
 have hf:=parseF_many (xs:=p.nodes) (f:=(nodesL p.nodes ++ [endW]).length+1) (nd:=[]) (ls:=[endW]) (t:=false) (n:=1) (fun x hx=>⟨hn x hx,hF x hx⟩) (by simp;omega) (by have:=nodesL_len p.nodes;simp;omega)
 have hg:∃ g,(nodesL p.nodes ++ [endW]).length+1 - p.nodes.length=g+1:=⟨(nodesL p.nodes ++ [endW]).length - p.nodes.length,by have:=nodesL_len p.nodes;simp;omega⟩
 obtain ⟨g,hg⟩:=hg
 rw [show (!([]:Str).isEmpty)=false from rfl,hf,hg,List.nil_append,parseF,if_pos (show endW=endW from rfl),if_pos (And.intro (show ([]:List Str)=[] from rfl) (show false=false from rfl))]
 rfl
end Pf
end Go.Proofs.YtjcekdiocliddaaGreatDoor
namespace Go.Proofs.YtjcekdiocliddaaGreatDoor
namespace Pf
open Num Txt
set_option linter.unusedVariables false
def splitS:Str→List Str
 |[]=>[[]]
 |c :: s=>if c=32 then [] :: splitS s else match splitS s with
  |[]=>[[c]]
  |w :: ws=>(c :: w) :: ws
theorem splitS_ne (s:Str):splitS s≠[]:=by
 cases s with
 |nil=>simp [splitS]
 |cons c s =>
  unfold splitS
  split
  ·simp
  ·split <;> simp
theorem join_split (s:Str):joinP (splitS s)=s:=by
 induction s with
 |nil=>rfl
 |cons c s ih =>
  unfold splitS
  have hne:=splitS_ne s
  split
  ·rename_i h
   rw [joinP_cons,if_neg hne,ih,h];rfl
  ·cases hs:splitS s with
   |nil=>exact absurd hs hne
   |cons w ws =>
    rw [hs] at ih
    show joinP ((c :: w) :: ws)=c :: s
    rw [← ih,joinP_cons,joinP_cons]
    split <;> rfl
theorem split_word {w:Str} (h:w.all wch=true) (s:Str):splitS (w ++ 32 :: s)=w :: splitS s∧splitS w=[w]:=by
 induction w with
 |nil =>
  refine ⟨?_,rfl⟩
  show splitS (32 :: s)=_
  rw [splitS,if_pos rfl]
 |cons c w ih =>
  rw [List.all_cons] at h
  simp only [Bool.and_eq_true] at h
  obtain ⟨e1,e2⟩:=ih h.2
  have hc:=(wch_ne h.1).1
  refine ⟨?_,?_⟩
  ·rw [List.cons_append,splitS,if_neg hc,e1]
  ·rw [splitS,if_neg hc,e2]
theorem split_join {ws:List Str} (h:∀ w ∈ ws,isWord w=true) (hne:ws≠[]):splitS (joinP ws)=ws:=by
 induction ws with
 |nil=>exact absurd rfl hne
 |cons w ws ih =>
  rw [joinP_cons]
  split
  ·rename_i e
   rw [e,(split_word (word_all (h w (by simp))) []).2]
  ·rename_i e
   rw [(split_word (word_all (h w (by simp))) _).1,ih (fun v hv=>h v (by simp [hv])) e]
theorem split_words {α} {P:List Str→Option α} (hP:∀ ws a,P ws=some a→ws≠[]∧∀ w ∈ ws,isWord w=true) (l:Str):P (splitS l)=if wordsE l=0 then P (wordsL l) else none:=by
 cases h:P (splitS l) with
 |some a =>
  obtain ⟨h1,h2⟩:=hP _ _ h
  obtain ⟨e1,e2⟩:=words_line (ws:=splitS l) fun w hw=>.inl (h2 w hw)
  rw [join_split] at e1 e2
  rw [if_pos e2,e1,h]
 |none =>
  split
  ·rename_i he
   cases h3:P (wordsL l) with
   |none=>rfl
   |some a =>
    obtain ⟨h1,h2⟩:=hP _ _ h3
    have h4:=(words_eq he).2
    rw [h4,split_join h2 h1,h3] at h
    cases h
  ·rfl
theorem word_unsR {ws:List Str} {u:List Int} (h:unsR ws=some u):ws≠[]∧∀ w ∈ ws,isWord w=true:=by
 unfold unsR at h
 cases ws with
 |nil=>cases h
 |cons a vs =>
  simp only at h
  split at h
  ·rename_i ha
   obtain ⟨h1,_⟩:=allR_num h
   refine ⟨by simp,fun w hw=>?_⟩
   rcases List.mem_cons.1 hw with rfl | hw
   ·rw [ha];decide
   ·rw [h1] at hw
    obtain ⟨k,_,rfl⟩:=List.mem_map.1 hw
    exact word_decI k
  ·cases h
theorem word_num {s:Str} (h:numE s=0):isWord s=true:=by rw [← (num_zero h).1];exact word_decI _
theorem word_restsR {s:Str} {r:List Bool} (h:restsR s=some r):isWord s=true:=by
 unfold restsR at h
 split at h
 ·rename_i e;rw [e];decide
 ·split at h
  ·rename_i e
   unfold restOK at e
   unfold isWord
   simp only [Bool.and_eq_true] at e ⊢
   refine ⟨e.1,List.all_eq_true.2 fun c hc=>?_⟩
   have:=List.all_eq_true.1 e.2 c hc
   simp at this
   rcases this with rfl | rfl <;> decide
  ·cases h
theorem word_visR {s:Str} {v:Int × Bool} (h:visR s=some v):isWord s=true:=by
 unfold visR at h
 cases s with
 |nil=>cases h
 |cons c t =>
  simp only at h
  split at h
  ·rename_i e
   refine word_cons ?_ (word_all (word_num e.2))
   rcases e.1 with e | e <;> rw [e] <;> decide
  ·cases h
theorem word_allR {α} {f:Str→Option α} (hf:∀ s a,f s=some a→isWord s=true) {l:List Str} {as:List α} (h:allR f l=some as):∀ w ∈ l,isWord w=true:=by
 intro w hw
 obtain ⟨i,hi,rfl⟩:=List.getElem_of_mem hw
 obtain ⟨h1,h2⟩:=allR_some h
 exact hf _ _ (h2 i hi (by omega))
theorem word_rouR {ws:List Str} {r:RouV} (h:rouR ws=some r):ws≠[]∧∀ w ∈ ws,isWord w=true:=by
 unfold rouR at h
 split at h
 ·rename_i a b c d vs
  split at h
  ·rename_i hc
   obtain ⟨h1,h2,h3⟩:=hc
   split at h
   ·rename_i r' v' hr hv
    refine ⟨by simp,fun w hw=>?_⟩
    simp only [List.mem_cons] at hw
    rcases hw with rfl | rfl | rfl | rfl | hw
    ·rw [h1];decide
    ·exact word_num h2
    ·exact word_num h3
    ·exact word_restsR hr
    ·exact word_allR (fun s a=>word_visR) hv w hw
   ·cases h
  ·cases h
 ·cases h
theorem split_uns (l:Str):unsR (splitS l)=if wordsE l=0 then unsR (wordsL l) else none:=split_words (fun ws a=>word_unsR) l
theorem split_rou (l:Str):rouR (splitS l)=if wordsE l=0 then rouR (wordsL l) else none:=split_words (fun ws a=>word_rouR) l
def planX (acc:List RouV) (n:Nat):List Str→Bool→PlanV × Nat × Int
 |[],_=>(⟨[],[]⟩,n,3)
 |l :: ls,t=>match unsR (splitS l) with
   |some u=>if ls=[]∧t=false then (⟨acc,u⟩,0,0) else (⟨[],[]⟩,n,3)
   |none=>match rouR (splitS l) with
    |some r=>planX (acc ++ [r]) (n+1) ls t
    |none=>(⟨[],[]⟩,n,3)
theorem planX_G:∀ (ls:List Str) (acc:List RouV) (n:Nat) (t:Bool),planX acc n ls t=planG acc n ls t
 |[],acc,n,t=>rfl
 |l :: ls,acc,n,t=>by
  unfold planX planG
  rw [split_uns,split_rou]
  by_cases h:wordsE l=0
  ·simp only [if_pos h]
   cases unsR (wordsL l) with
   |some u=>rfl
   |none =>
    simp only
    cases rouR (wordsL l) with
    |some r=>exact planX_G ls _ _ _
    |none=>rfl
  ·simp only [if_neg h]
theorem decI_len {z:Int} (h:fits z):(decI z).length≤21:=by
 have h1:=dec_len20 h
 have h2:=mag_length_decI z
 omega
theorem join_len {ws:List Str} {k:Nat} (h:∀ w ∈ ws,w.length≤k):(joinP ws).length≤ws.length*(k+1):=by
 induction ws with
 |nil=>simp [joinP]
 |cons w ws ih =>
  rw [joinP_cons]
  have h1:=h w (by simp)
  have h2:=ih fun v hv=>h v (by simp [hv])
  rw [List.length_cons,Nat.add_mul]
  split
  ·omega
  ·rw [List.length_append,List.length_cons];omega
theorem flat_len {α} {f:α→Str} {l:List α} {k:Nat} (h:∀ x ∈ l,(f x).length≤k):(l.flatMap f).length≤l.length*k:=by
 induction l with
 |nil=>simp
 |cons a l ih =>
  rw [List.flatMap_cons,List.length_append,List.length_cons,Nat.add_mul]
  have h1:=h a (by simp)
  have h2:=ih fun v hv=>h v (by simp [hv])
  omega
structure PlanF (p:PlanV):Prop where
 rl:p.rous.length≤1000000
 ul:p.uns.length≤1000000
 kind:∀ r ∈ p.rous,fits r.kind∧fits r.start∧r.rests.length≤1000000∧r.vis.length≤1000000∧∀ v ∈ r.vis,fits v.1
 uns:∀ u ∈ p.uns,fits u
structure PlanFew (p:PlanV):Prop where
 rl:p.rous.length≤6
 ul:p.uns.length≤20
 ro:∀ r ∈ p.rous,r.rests.length≤21∧r.vis.length≤20
theorem rests_len (l:List Bool):(restsW l).length≤l.length+1:=by unfold restsW;split <;> simp
theorem vis_len {v:Int × Bool} (h:fits v.1):(visW v).length≤22:=by
 unfold visW;have:=decI_len h;simp;omega
theorem rou_len {r:RouV} (h:fits r.kind∧fits r.start∧(∀ v ∈ r.vis,fits v.1)) (hr:r.rests.length≤21) (hv:r.vis.length≤20):(lineS (rouWs r)).length≤553:=by
 have h1:(joinP (rouWs r)).length≤(rouWs r).length*(22+1):=join_len fun w hw=>by
  unfold rouWs at hw
  simp only [List.mem_cons] at hw
  rcases hw with rfl | rfl | rfl | rfl | hw
  ·decide
  ·have:=decI_len h.1;omega
  ·have:=decI_len h.2.1;omega
  ·have:=rests_len r.rests;omega
  ·obtain ⟨v,hv,rfl⟩:=List.mem_map.1 hw
   exact vis_len (h.2.2 v hv)
 have h2:(rouWs r).length=4+r.vis.length:=by unfold rouWs;simp;omega
 unfold lineS
 rw [List.length_append]
 rw [h2] at h1
 have:(4+r.vis.length)*(22+1)≤24*23:=Nat.mul_le_mul_right _ (by omega)
 simp;omega
theorem plan_len {p:PlanV} (h:PlanF p) (hf:PlanFew p):(planS p).length≤5000:=by
 have h1:(rousS p.rous).length≤p.rous.length*553:=flat_len fun r hr=>rou_len ⟨(h.kind r hr).1,(h.kind r hr).2.1,(h.kind r hr).2.2.2.2⟩ (hf.ro r hr).1 (hf.ro r hr).2
 have h2:(joinP (unsWs p.uns)).length≤(unsWs p.uns).length*(21+1):=join_len fun w hw=>by
  unfold unsWs at hw
  rcases List.mem_cons.1 hw with rfl | hw
  ·decide
  ·obtain ⟨u,hu,rfl⟩:=List.mem_map.1 hw
   exact decI_len (h.uns u hu)
 have h3:(unsWs p.uns).length=1+p.uns.length:=by unfold unsWs;simp;omega
 rw [h3] at h2
 have h4:p.rous.length*553≤6*553:=Nat.mul_le_mul_right _ hf.rl
 have h5:(1+p.uns.length)*(21+1)≤21*22:=Nat.mul_le_mul_right _ (by have:=hf.ul;omega)
 unfold planS lineS
 simp only [List.length_append,List.length_singleton]
 omega
theorem quote_len (t:Str):(quote t).length≤4*t.length+2:=by
 have h:(forms t).length≤t.length*4:=flat_len fun c _=>by
  unfold form
  split
  ·simp
  ·split
   ·simp
   ·split <;> simp
 unfold quote
 simp;omega
end Pf
end Go.Proofs.YtjcekdiocliddaaGreatDoor
namespace Go.Proofs.YtjcekdiocliddaaGreatDoor
namespace Pf
open Num Txt
set_option linter.unusedVariables false
theorem index_line {l:Str} (h:∀ c ∈ l,c≠10) (x:Str):Lib.index (l ++ 10 :: x) [10]=(l.length:Int):=by
 induction l with
 |nil =>
  show Lib.index (10 :: x) [10]=_
  rw [Lib.index]
  have hp:([10]:Str).isPrefixOf (10 :: x)=true:=rfl
  rw [hp];rfl
 |cons c r ih =>
  have hc:c≠10:=h c (by simp)
  rw [List.cons_append,Lib.index]
  have hp:([10]:Str).isPrefixOf (c :: (r ++ 10 :: x))=false:=by
   have h1:((10:UInt8) == c)=false:=by simpa using fun e:(10:UInt8)=c=>hc e.symm
   show ((10:UInt8) == c && _)=false
   rw [h1];rfl
  rw [hp,ih fun d hd=>h d (by simp [hd])]
  have h4:((r.length:Int) == -1)=false:=by rw [beq_eq_false_iff_ne];omega
  simp [h4]
theorem index_none {l:Str} (h:∀ c ∈ l,c≠10):Lib.index l [10] = -1:=by
 induction l with
 |nil=>rfl
 |cons c r ih =>
  have hc:c≠10:=h c (by simp)
  rw [Lib.index]
  have hp:([10]:Str).isPrefixOf (c :: r)=false:=by
   have h1:((10:UInt8) == c)=false:=by simpa using fun e:(10:UInt8)=c=>hc e.symm
   show ((10:UInt8) == c && _)=false
   rw [h1];rfl
  rw [hp,ih fun d hd=>h d (by simp [hd])];rfl
theorem cut_line {l:Str} (h:∀ c ∈ l,c≠10) (x:Str):Lib.cut (l ++ 10 :: x) [10]=(l,x,true):=by
 unfold Lib.cut
 rw [index_line h,if_pos (Int.natCast_nonneg _),Int.toNat_natCast,show ([10]:Str).length=1 from rfl,List.take_left,List.drop_append,List.drop_of_length_le (by omega),show l.length+1 - l.length=1 by omega];rfl
theorem cut_none {l:Str} (h:∀ c ∈ l,c≠10):Lib.cut l [10]=(l,[],false):=by
 unfold Lib.cut
 rw [index_none h,if_neg (show ¬ (0:Int) ≤ -1 by decide)]
theorem LinesOf.cons {l:Str} {ls:List Str} {r:Str} {s:Str} (h:LinesOf s (l :: ls) r):s=l ++ 10 :: (unl ls ++ r)∧(∀ c ∈ l,c≠10)∧LinesOf (unl ls ++ r) ls r:=by
 refine ⟨?_,h.no l (by simp),rfl,fun m hm=>h.no m (by simp [hm]),h.tl⟩
 rw [h.eq];simp [unl]
theorem LinesOf.nil {r:Str} {s:Str} (h:LinesOf s [] r):s=r∧∀ c ∈ s,c≠10:=by
 have:s=r:=h.eq
 exact ⟨this,by rw [this];exact h.tl⟩
end Pf
end Go.Proofs.YtjcekdiocliddaaGreatDoor

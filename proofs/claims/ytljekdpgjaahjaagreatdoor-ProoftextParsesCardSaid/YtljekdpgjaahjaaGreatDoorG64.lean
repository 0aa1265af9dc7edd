/- text.Quote; the reference's form, Quote. -/
import Derived.Test.YtljekdpgjaahjaaGreatDoorG52
import Derived.Test.YtljekdpgjaahjaaGreatDoorG65
import Derived.Deep.QuietTactic
import Derived.BigQuiet
import Derived.Test.YtljekdpgjaahjaaGreatDoorG11
import Derived.Lib.Join
namespace Go.Proofs.YtljekdpgjaahjaaGreatDoor
open Go.RowKit Num Txt
set_option linter.unusedVariables false
attribute [local go_sem] B_size B_get B_toList B_mk B_extract B_append
theorem snoc_bytes (a:List UInt8) (c:UInt8):bytes a ++ [.int .u8 c.toNat]=bytes (a ++ [c]):=by simp [bytes]
theorem form_len (c:UInt8):(form c).length≤4:=by unfold form;split <;> (try split) <;> (try split) <;> simp
theorem forms_len (t:List UInt8):(forms t).length≤4*t.length:=by
 induction t with
 |nil=>simp [forms]
 |cons c t ih=>rw [forms_cons,List.length_append,List.length_cons];have:=form_len c;omega
theorem quote_len (t:List UInt8):(quote t).length=(forms t).length+2:=by simp [quote]
theorem forms_take (l:List UInt8) (k:Nat) (h:k<l.length):forms (l.take (k+1))=forms (l.take k) ++ form (at8 l k):=by
 rw [List.take_succ_eq_append_getElem h,forms_snoc,at8_eq l k h]
set_option maxHeartbeats 1000000 in
theorem quote_any (l:List UInt8) (w:World) (hl:l.length≤10000) :
  Calls Tryz.prog 52 #[.string (B l)] w fun e w'=>e=.returned (.string (B (quote l)))∧Below w.heap.size w w':=by
 have HQ:=Lib.hid (show quote l=34 :: forms (l.take l.length) ++ [34] by rw [List.take_of_length_le (Nat.le_refl _)];rfl)
 go_enter Tryz.func52,Tryz.ntmps52
 simp only [B_mk]
 go_wp2_with (first
  |(refine wp_mk0 el_byte rfl _ _ rfl w.heap.size _ _ _ _ (l.length+2) rfl rfl (by omega) (by omega) (by unfold maxLen;omega) (Nat.le_refl _) ?_;intro A0 w0 hown0 hb0)
  |(at_builtin;refine wp_app1 el_byte rfl _ _ rfl w.heap.size _ _ _ _ _ _ rfl hown0 rfl rfl (by unfold maxLen;omega) (by omega) hb0.size ?_;intro A1 c1 w1 hown1 hb1))
 have hown2:OwnS w1 w.heap.size 5 A1 (34 :: forms (l.take 0)).length c1 (bytes (34 :: forms (l.take 0))):=by simpa [bytes,forms] using hown1
 have hbel:=hb0.trans hb1
 clear hown1 hown0 hb0 hb1
 go_loopw [3,4,14] (fun v _ i wr=>∃ (k:Nat) (A:Option Addr) (c:Nat),k≤l.length∧i=.int .i64 k∧v=.slice A (34 :: forms (l.take k)).length c∧OwnS wr w.heap.size 5 A (34 :: forms (l.take k)).length c (bytes (34 :: forms (l.take k)))∧Below w.heap.size w wr) (fun _ _ i _=>l.length - (intOf i).toNat)
 case atStart=>exact ⟨0,A1,c1,Nat.zero_le _,rfl,rfl,hown2,hbel⟩
 case round =>
  obtain ⟨k,A,c,hk,rfl,rfl,hown,hbelr⟩:=hrel
  have hfl:=forms_len (l.take k)
  have hfl2:(34 :: forms (l.take k)).length≤40001:=by rw [List.length_cons];rw [List.length_take] at hfl;omega
  clear hown2 hbel hfl
  by_cases hlt:k<l.length
  ·have HF:=Lib.hid (forms_take l k hlt)
   go_wp2_with fail
   refine (form_any _ A _ c (at8 l k) w.heap.size wr hown hbelr.size (by omega)).mono ?_
   rintro e w2 ⟨A',c',rfl,hown',hb'⟩
   go_wp2_with fail
   go_roundw
   case rel =>
    have e1:(34 :: forms (l.take k)) ++ form (at8 l k)=34 :: forms (l.take (k+1)):=by rw [HF.out];rfl
    have e2:(34 :: forms (l.take k)).length+(form (at8 l k)).length=(34 :: forms (l.take (k+1))).length:=by rw [← e1,List.length_append]
    rw [e1,e2] at hown'
    exact ⟨k+1,A',c',by omega,by go_num,congrArg (fun n=>Value.slice A' n c') e2,hown',hbelr.trans hb'⟩
   case measure=>simp [intOf];omega
  ·obtain rfl:k=l.length:=by omega
   generalize hq:34 :: forms (l.take l.length)=q at *
   have HQ2:=Lib.hid hq
   clear hq
   go_wp2_with (at_builtin;refine wp_app1 el_byte rfl _ _ rfl w.heap.size _ _ _ (bytes q) _ (.int .u8 34) rfl hown rfl rfl (by unfold maxLen;omega) (by omega) hbelr.size ?_;intro A' c' w1 hown1 hb1;obtain ⟨g,hgA,_⟩:=hown1.at_ (by omega);subst hgA;have cv:=conv_bytes g (q.length+1) c' w.heap.size (q ++ [34]) w1 (by simp) (by rw [← snoc_bytes];exact hown1))
   go_ret
   exact ⟨ret_str (by rw [HQ.out]),hbelr.trans hb1⟩
theorem hexL_sub:∀ n,n<16→(hexL.take (n+1)).drop n=[hexd n]:=by decide
set_option maxHeartbeats 1000000 in
set_option maxRecDepth 100000 in
theorem rform_any (c:UInt8) (w:World):Calls Tryz.prog 64 #[.int .u8 c.toNat] w fun e w'=>e=.returned (.string (B (form c)))∧Below w.heap.size w w':=by
 have hc:=c.toNat_lt
 have e1:=u8_eq c 34
 have e2:=u8_eq c 92
 have e3:=u8_eq c 10
 simp only [show ((34:UInt8).toNat:Int)=34 from rfl,show ((92:UInt8).toNat:Int)=92 from rfl,show ((10:UInt8).toNat:Int)=10 from rfl] at e1 e2 e3
 by_cases hq:c=34
 ·subst hq
  go_enter Tryz.func64,Tryz.ntmps64
  simp only [B_mk]
  go_wp2_with fail
  go_ret
  exact ⟨rfl,Below.refl _ _⟩
 ·by_cases hb:c=92
  ·subst hb
   go_enter Tryz.func64,Tryz.ntmps64
   simp only [B_mk]
   go_wp2_with fail
   go_ret
   exact ⟨rfl,Below.refl _ _⟩
  ·by_cases hn:c=10
   ·subst hn
    go_enter Tryz.func64,Tryz.ntmps64
    simp only [B_mk]
    go_wp2_with fail
    go_ret
    exact ⟨rfl,Below.refl _ _⟩
   ·have hqb:¬ (c=34∨c=92):=by rintro (h | h);exact hq h;exact hb h
    have h1:decide (c=34)=false:=by simpa using hq
    have h2:decide (c=92)=false:=by simpa using hb
    have h3:decide (c=10)=false:=by simpa using hn
    rw [h1] at e1;rw [h2] at e2;rw [h3] at e3
    by_cases hx:c.toNat<32∨126<c.toNat
    ·have HF:=Lib.hid (form_hex hqb hn hx)
     have S1:=Lib.hid (hexL_sub (c.toNat / 16) (by omega))
     have S2:=Lib.hid (hexL_sub (c.toNat % 16) (by omega))
     clear hqb h1 h2 h3 hq hb hn
     have i1:((c.toNat:Int) / 16).toNat=c.toNat / 16:=by omega
     have i2:((c.toNat:Int) % 16).toNat=c.toNat % 16:=by omega
     have i3:0≤(c.toNat:Int) / 16:=by omega
     have i4:(c.toNat:Int) / 16<16:=by omega
     have i5:0≤(c.toNat:Int) % 16:=by omega
     have i6:(c.toNat:Int) % 16<16:=by omega
     rcases hx with hx | hx
     ·have hx':(c.toNat:Int)<32:=by omega
      go_enter Tryz.func64,Tryz.ntmps64
      simp only [B_mk]
      go_wp2_with fail
      go_quiet (fail)
      go_wp2_with fail
      go_ret
      refine ⟨ret_str ?_,?_⟩
      ·have a1:=S1.out
       have a2:=S2.out
       simp only [hexL,List.take_succ_cons] at a1 a2
       rw [HF.out,a1,a2];rfl
      ·exact (below_drewN (Below.refl _ _) _)
     ·have hx':¬ (c.toNat:Int)<32:=by omega
      have hx'':(126:Int)<(c.toNat:Int):=by omega
      go_enter Tryz.func64,Tryz.ntmps64
      simp only [B_mk]
      go_wp2_with fail
      go_quiet (fail)
      go_wp2_with fail
      go_ret
      refine ⟨ret_str ?_,?_⟩
      ·have a1:=S1.out
       have a2:=S2.out
       simp only [hexL,List.take_succ_cons] at a1 a2
       rw [HF.out,a1,a2];rfl
      ·exact (below_drewN (Below.refl _ _) _)
    ·have HF:=Lib.hid (form_plain hqb hn hx)
     have hx1:¬ (c.toNat:Int)<32:=by omega
     have hx2:(c.toNat:Int)≤126:=by omega
     clear hx hqb h1 h2 h3 hq hb hn
     have cv:=one_byte w c.toNat (by omega) (by omega)
     go_enter Tryz.func64,Tryz.ntmps64
     simp only [B_mk]
     go_wp2_with fail
     go_ret
     exact ⟨ret_str (by rw [HF.out]),(Below.refl _ _).alloc (Nat.le_refl _) _⟩
set_option maxHeartbeats 1000000 in
theorem rquote_any (l:List UInt8) (w:World) (hl:l.length≤10000) :
  Calls Tryz.prog 30 #[.string (B l)] w fun e w'=>e=.returned (.string (B (quote l)))∧Below w.heap.size w w':=by
 have HQ:=Lib.hid (show quote l=34 :: forms (l.take l.length) ++ [34] by rw [List.take_of_length_le (Nat.le_refl _)];rfl)
 have hown2:OwnS (w.alloc (.cells #[.int .u8 34] 5)) w.heap.size 5 (some ⟨w.heap.size,0,none⟩) (34 :: forms (l.take 0)).length 1 (bytes (34 :: forms (l.take 0))) :=
  OwnS.lit w 5 #[.int .u8 34] w.heap.size 1 (Nat.le_refl _) rfl (by unfold maxLen;omega)
 have hbel:Below w.heap.size w (w.alloc (.cells #[.int .u8 34] 5)):=(Below.refl _ _).alloc (Nat.le_refl _) _
 go_enter Tryz.func30,Tryz.ntmps30
 simp only [B_mk]
 go_wp2_with fail
 go_loopw [3,4] (fun v i wr=>∃ (k:Nat) (A:Option Addr) (c:Nat),k≤l.length∧i=.int .i64 k∧v=.slice A (34 :: forms (l.take k)).length c∧OwnS wr w.heap.size 5 A (34 :: forms (l.take k)).length c (bytes (34 :: forms (l.take k)))∧Below w.heap.size w wr) (fun _ i _=>l.length - (intOf i).toNat)
 case atStart=>exact ⟨0,_,1,Nat.zero_le _,rfl,rfl,hown2,hbel⟩
 case round =>
  obtain ⟨k,A,c,hk,rfl,rfl,hown,hbelr⟩:=hrel
  have hfl:=forms_len (l.take k)
  have hfl2:(34 :: forms (l.take k)).length≤40001:=by rw [List.length_cons];rw [List.length_take] at hfl;omega
  clear hown2 hbel hfl
  by_cases hlt:k<l.length
  ·have HF:=Lib.hid (forms_take l k hlt)
   go_wp2_with fail
   refine (rform_any (at8 l k) wr).mono ?_
   rintro e w2 ⟨rfl,hb2⟩
   have hown2:=hown.below hb2
   have hbel2:=hbelr.trans (hb2.mono hbelr.size)
   have hfm:=form_len (at8 l k)
   go_wp2_with (at_builtin;refine wp_apps rfl _ _ rfl w.heap.size _ _ _ (34 :: forms (l.take k)) _ (form (at8 l k)) rfl hown2 rfl (by omega) hbel2.size ?_;intro A' c' w3 hown3 hb3)
   go_roundw
   case rel =>
    have e1:(34 :: forms (l.take k)) ++ form (at8 l k)=34 :: forms (l.take (k+1)):=by rw [HF.out];rfl
    have e2:(34 :: forms (l.take k)).length+(form (at8 l k)).length=(34 :: forms (l.take (k+1))).length:=by rw [← e1,List.length_append]
    rw [e1,e2] at hown3
    exact ⟨k+1,A',c',by omega,by go_num,congrArg (fun n=>Value.slice A' n c') e2,hown3,hbel2.trans hb3⟩
   case measure=>simp [intOf];omega
  ·obtain rfl:k=l.length:=by omega
   generalize hq:34 :: forms (l.take l.length)=q at *
   have HQ2:=Lib.hid hq
   clear hq
   go_wp2_with (at_builtin;refine wp_app1 el_byte rfl _ _ rfl w.heap.size _ _ _ (bytes q) _ (.int .u8 34) rfl hown rfl rfl (by unfold maxLen;omega) (by omega) hbelr.size ?_;intro A' c' w1 hown1 hb1;obtain ⟨g,hgA,_⟩:=hown1.at_ (by omega);subst hgA;have cv:=conv_bytes g (q.length+1) c' w.heap.size (q ++ [34]) w1 (by simp) (by rw [← snoc_bytes];exact hown1))
   go_ret
   exact ⟨ret_str (by rw [HQ.out]),hbelr.trans hb1⟩
def inner (l:Str):Str:=(l.take (l.length - 1)).drop 1
theorem quote_inner (t:Str):inner (quote t)=forms t:=by
 unfold inner quote
 simp
theorem quote_of_inner {l b:Str} (h2:2≤l.length) (h0:at8 l 0=34) (h1:at8 l (l.length - 1)=34) (h:inner l=forms b):l=quote b:=by
 unfold quote
 rw [← h]
 unfold inner
 have e1:l=l.take (l.length - 1) ++ [34]:=by
  have:=List.take_succ_eq_append_getElem (l:=l) (i:=l.length - 1) (by omega)
  rw [show l.length - 1+1=l.length by omega,List.take_of_length_le (Nat.le_refl _),← at8_eq l _ (by omega),h1] at this
  exact this
 have e2:l.take (l.length - 1)=34 :: (l.take (l.length - 1)).drop 1:=by
  cases l with
  |nil=>simp at h2
  |cons c r =>
   have hc:c=34:=h0
   subst hc
   simp only [List.length_cons,Nat.add_sub_cancel]
   obtain ⟨k,hk⟩:∃ k,r.length=k+1:=⟨r.length - 1,by simp at h2;omega⟩
   rw [hk];simp
 rw [← e2];exact e1
theorem quote_ends (t:Str):2≤(quote t).length∧at8 (quote t) 0=34∧at8 (quote t) ((quote t).length - 1)=34:=by
 refine ⟨by rw [quote_len];omega,rfl,?_⟩
 rw [quote_len]
 unfold at8 quote
 simp
theorem unq_bad_ends {l:Str} (h:¬ (2≤l.length∧at8 l 0=34∧at8 l (l.length - 1)=34)):unqS l=[]∧unqE l=3:=unq_no (fun t e=>h (by rw [e];exact quote_ends t))
theorem unq_bad_inner {l:Str} (h:∀ t,inner l≠forms t):unqS l=[]∧unqE l=3:=unq_no (fun t e=>h t (by rw [e,quote_inner]))
theorem unq_good {l b:Str} (h2:2≤l.length) (h0:at8 l 0=34) (h1:at8 l (l.length - 1)=34) (h:inner l=forms b):unqS l=b∧unqE l=0:=by
 rw [quote_of_inner h2 h0 h1 h];exact ⟨unqS_quote b,unqE_quote b⟩
theorem forms_rest {s b:Str} {k:Nat} (hk:k<s.length) (h:s.take k=forms b) {t:Str} (e:s=forms t):∃ d x,s.drop k=form d ++ x:=by
 have h1:forms b ++ s.drop k=forms t:=by rw [← h,List.take_append_drop,e]
 obtain ⟨t',_,h3⟩:=forms_split b t _ h1
 cases t' with
 |nil =>
  have:=congrArg List.length h3
  rw [forms_nil,List.length_drop,List.length_nil] at this;omega
 |cons d t'=>exact ⟨d,forms t',by rw [h3,forms_cons]⟩
theorem drop_at {s:Str} {k:Nat} (hk:k<s.length):s.drop k=at8 s k :: s.drop (k+1):=by rw [List.drop_eq_getElem_cons hk,at8_eq s k hk]
theorem no_raw {s b:Str} {k:Nat} (hk:k<s.length) (h:s.take k=forms b) (hc:at8 s k=34∨(at8 s k).toNat<32∨126<(at8 s k).toNat):∀ t,s≠forms t:=by
 intro t e
 obtain ⟨d,x,hd⟩:=forms_rest hk h e
 rw [drop_at hk] at hd
 by_cases h1:d=34∨d=92
 ·rw [form_qb h1] at hd;simp at hd;rw [hd.1] at hc;exact absurd hc (by decide)
 ·by_cases h2:d=10
  ·rw [form_nl h2] at hd;simp at hd;rw [hd.1] at hc;exact absurd hc (by decide)
  ·by_cases h3:d.toNat<32∨126<d.toNat
   ·rw [form_hex h1 h2 h3] at hd;simp at hd;rw [hd.1] at hc;exact absurd hc (by decide)
   ·rw [form_plain h1 h2 h3] at hd;simp at hd;rw [hd.1] at hc
    rcases hc with hc | hc
    ·exact h1 (.inl hc)
    ·exact h3 hc
theorem no_esc {s b:Str} {k:Nat} (hk:k<s.length) (h:s.take k=forms b) (hc:at8 s k=92) {d:UInt8} (he:escOK (s.drop (k+1)) d 0):∀ t,s≠forms t:=by
 intro t e
 obtain ⟨d',x,hd⟩:=forms_rest hk h e
 rw [drop_at hk,hc] at hd
 rcases he with ⟨_,he⟩ | ⟨h0,_⟩
 ·exact he d' x hd
 ·omega
theorem step_raw {s b:Str} {k:Nat} (hk:k<s.length) (h:s.take k=forms b) (h1:at8 s k≠34) (h2:at8 s k≠92) (h3:32≤(at8 s k).toNat) (h4:(at8 s k).toNat≤126):s.take (k+1)=forms (b ++ [at8 s k]):=by
 rw [List.take_succ_eq_append_getElem hk,← at8_eq s k hk,h,forms_snoc,form_plain (by rintro (e | e);exact h1 e;exact h2 e) (by intro e;rw [e] at h3;simp at h3) (by omega)]
theorem step_esc {s b:Str} {k n:Nat} {d:UInt8} (hk:k<s.length) (h:s.take k=forms b) (hc:at8 s k=92) (he:escOK (s.drop (k+1)) d n) (hn:n≠0):k+1+n≤s.length∧n≤3∧s.take (k+1+n)=forms (b ++ [d]):=by
 rcases he with ⟨h0,_⟩ | ⟨h0,h3,hl,hf⟩
 ·exact absurd h0 hn
 ·rw [List.length_drop] at hl
  refine ⟨by omega,h3,?_⟩
  rw [forms_snoc,← hf,← h,List.take_add (i:=k+1),List.take_succ_eq_append_getElem hk,← at8_eq s k hk,hc,List.append_assoc]
  rfl
theorem bytes_len_of_forms {b s:Str} {k:Nat} (h:s.take k=forms b) (hk:k≤s.length):b.length≤s.length:=by
 have:∀ b:Str,b.length≤(forms b).length:=by
  intro b
  induction b with
  |nil=>simp
  |cons c b ih=>rw [forms_cons,List.length_append,List.length_cons];have:=List.length_pos_iff.2 (form_ne c);omega
 have h1:=this b
 rw [← h,List.length_take] at h1;omega
set_option maxRecDepth 100000 in
theorem conv_own (A:Option Addr) (n c Bs:Nat) (l:List UInt8) (w:World) (hl:l.length=n) (h:OwnS w Bs 5 A n c (bytes l)) :
  (convert 38 9 (.slice A n c)).run Tryz.prog w=.ok (.string (B l)) w:=by
 rcases h.2 with ⟨hv,hn⟩ | ⟨g,cap,cur,hv,_⟩
 ·injection hv with hA hn2 hc
  subst hA;subst hn;subst hc
  obtain rfl:l=[]:=List.eq_nil_of_length_eq_zero hl
  exact run_convert_bytes_nil (P:=Tryz.prog) w 38 5 Tryz.underlying38 Tryz.underlying5 0 0 9 Tryz.underlying9
 ·have hv0:=hv
  injection hv with hA _ _
  subst hA
  exact conv_bytes g n c Bs l w hl h
theorem inner_length (l:Str) (h:2≤l.length):(inner l).length=l.length - 2:=by unfold inner;rw [List.length_drop,List.length_take];omega
theorem ret_siT {a b:List UInt8} {c d:Int} (h:a=b) (h2:c=d):Ending.returned (.tuple #[.string (B a),.int .i64 c])=.returned (.tuple #[.string (B b),.int .i64 d]):=by rw [h,h2]
set_option maxHeartbeats 1000000 in
set_option maxRecDepth 100000 in
theorem unquote_any (l:List UInt8) (w:World) (hl:l.length≤1000000) :
  Calls Tryz.prog 68 #[.string (B l)] w fun e w'=>e=.returned (.tuple #[.string (B (unqS l)),.int .i64 (unqE l)])∧Below w.heap.size w w':=by
 have BAD:=Lib.hid (@unq_bad_ends l)
 by_cases h2:l.length<2
 ·have HB:=Lib.hid (BAD.out (by omega))
  have h2':(l.length:Int)<2:=by omega
  go_enter Tryz.func68,Tryz.ntmps68
  simp only [B_mk]
  go_wp2_with fail
  go_ret2
  exact ⟨ret_siT HB.out.1.symm HB.out.2.symm,Below.refl _ _⟩
 have h2':¬ (l.length:Int)<2:=by omega
 have i0:(0:Int)<(l.length:Int):=by omega
 have i1:((l.length:Int) - 1).toNat=l.length - 1:=by omega
 by_cases hA:at8 l 0=34
 ·have a1:(((at8 l 0).toNat:Int) != 34)=false:=by rw [hA];rfl
  by_cases hZ:at8 l (l.length - 1)=34
  ·have a2:(((at8 l (l.length - 1)).toNat:Int) != 34)=false:=by rw [hZ];rfl
   have GOOD:=Lib.hid (fun b=>@unq_good l b (by omega) hA hZ)
   have BI:=Lib.hid (@unq_bad_inner l)
   have hil:=inner_length l (by omega)
   have hin:(l.take (l.length - 1)).drop 1=inner l:=rfl
   clear hA hZ BAD
   go_enter Tryz.func68,Tryz.ntmps68
   simp only [B_mk]
   go_wp2_with (refine wp_mk0 el_byte rfl _ _ rfl w.heap.size _ _ _ _ (inner l).length rfl rfl (by omega) (by omega) (by unfold maxLen;omega) (Nat.le_refl _) ?_;intro A0 w0 hown0 hb0)
   clear hin
   rw [hil] at hown0
   generalize inner l=s at *
   have hsl:s.length≤1000000:=by omega
   have htl:List.take s.length s=s:=List.take_of_length_le (Nat.le_refl _)
   clear hil
   go_loopw [4,5,6,7,8] (fun v i _ _ _ wr=>∃ (k:Nat) (b:List UInt8) (A:Option Addr) (c:Nat),k≤s.length∧i=.int .i64 k∧v=.slice A b.length c∧s.take k=forms b∧OwnS wr w.heap.size 5 A b.length c (bytes b)∧Below w.heap.size w wr) (fun _ i _ _ _ _=>s.length - (intOf i).toNat)
   case atStart=>exact ⟨0,[],A0,_,Nat.zero_le _,rfl,rfl,by simp [forms],hown0,hb0⟩
   case round =>
    obtain ⟨k,b,A,cp,hk,rfl,rfl,htk,hown,hbel⟩:=hrel
    have hbl:=bytes_len_of_forms htk hk
    have HTK:=Lib.hid htk
    clear htk hown0 hb0
    by_cases hlt:k<s.length
    ·have NR:=Lib.hid (no_raw hlt HTK.out)
     have NE:=Lib.hid (fun h=>@no_esc s b k hlt HTK.out h)
     have SR:=Lib.hid (step_raw hlt HTK.out)
     have SE:=Lib.hid (fun (n:Nat) (d:UInt8) h=>@step_esc s b k n d hlt HTK.out h)
     by_cases hq:at8 s k=34
     ·have HB:=Lib.hid (BI.out (NR.out (.inl hq)))
      have a3:(((at8 s k).toNat:Int) == 34)=true:=u8_is hq
      clear hq
      go_wp2_with fail
      go_ret2
      exact ⟨ret_siT HB.out.1.symm HB.out.2.symm,hbel⟩
     have a3:(((at8 s k).toNat:Int) == 34)=false:=u8_not hq
     by_cases hlo:(at8 s k).toNat<32
     ·have HB:=Lib.hid (BI.out (NR.out (.inr (.inl hlo))))
      have a4:((at8 s k).toNat:Int)<32:=by omega
      clear hq hlo
      go_wp2_with fail
      go_ret2
      exact ⟨ret_siT HB.out.1.symm HB.out.2.symm,hbel⟩
     have a4:¬ ((at8 s k).toNat:Int)<32:=by omega
     by_cases hhi:126<(at8 s k).toNat
     ·have HB:=Lib.hid (BI.out (NR.out (.inr (.inr hhi))))
      have a5:(126:Int)<((at8 s k).toNat:Int):=by omega
      clear hq hlo hhi
      go_wp2_with fail
      go_ret2
      exact ⟨ret_siT HB.out.1.symm HB.out.2.symm,hbel⟩
     have a5:((at8 s k).toNat:Int)≤126:=by omega
     by_cases hb:at8 s k=92
     ·have a6:(((at8 s k).toNat:Int) == 92)=true:=u8_is hb
      have HB92:=Lib.hid hb
      clear hq hlo hhi hb
      have k1:((k:Int)+1).toNat=k+1:=by omega
      go_wp2_with fail
      refine (escaped_any (s.drop (k+1)) _ (by rw [List.length_drop];omega)).mono ?_
      rintro e w2 ⟨d,n,rfl,hesc,hb2⟩
      have hown2:=hown.below hb2
      have hbel2:=hbel.trans (hb2.mono hbel.size)
      by_cases hn:n=0
      ·subst hn
       have HB:=Lib.hid (BI.out (NE.out HB92.out hesc))
       clear hesc
       go_wp2_with fail
       go_ret2
       exact ⟨ret_siT HB.out.1.symm HB.out.2.symm,hbel2⟩
      ·obtain ⟨hs1,hs3,hs2⟩:=SE.out n d HB92.out hesc hn
       have HS:=Lib.hid hs2
       have hnz:((n:Int) == 0)=false:=by rw [beq_eq_false_iff_ne];omega
       clear hesc hs2 hn
       go_wp2_with (at_builtin;refine wp_app1 el_byte rfl _ _ rfl w.heap.size _ _ _ (bytes b) _ (.int .u8 d.toNat) rfl hown2 rfl rfl (by unfold maxLen;omega) (by omega) hbel2.size ?_;intro A' c' w3 hown3 hb3)
       go_roundw
       case rel=>exact ⟨k+1+n,b ++ [d],A',c',by omega,by go_num,by simp,HS.out,by rw [snoc_bytes] at hown3;simpa using hown3,hbel2.trans hb3⟩
       case measure=>simp [intOf];omega
     ·have a6:(((at8 s k).toNat:Int) == 92)=false:=u8_not hb
      have HS:=Lib.hid (SR.out hq hb (by omega) (by omega))
      clear hq hlo hhi hb
      go_wp2_with (at_builtin;refine wp_app1 el_byte rfl _ _ rfl w.heap.size _ _ _ (bytes b) _ (.int .u8 (at8 s k).toNat) rfl hown rfl rfl (by unfold maxLen;omega) (by omega) hbel.size ?_;intro A' c' w1 hown1 hb1)
      go_roundw
      case rel=>exact ⟨k+1,b ++ [at8 s k],A',c',by omega,by go_num,by simp,HS.out,by rw [snoc_bytes] at hown1;simpa using hown1,hbel.trans hb1⟩
      case measure=>simp [intOf];omega
    ·obtain rfl:k=s.length:=by omega
     have HG:=Lib.hid (GOOD.out b (by have:=HTK.out;rwa [List.take_of_length_le (Nat.le_refl _)] at this))
     have cv:=conv_own A b.length cp w.heap.size b wr rfl hown
     go_wp2_with fail
     go_ret2
     exact ⟨ret_siT HG.out.1.symm HG.out.2.symm,hbel⟩
  ·have HB:=Lib.hid (BAD.out (fun h=>hZ h.2.2))
   have a2:(((at8 l (l.length - 1)).toNat:Int) != 34)=true:=by have:=u8_not hZ;simp at this ⊢;omega
   clear hA hZ
   go_enter Tryz.func68,Tryz.ntmps68
   simp only [B_mk]
   go_wp2_with fail
   go_ret2
   exact ⟨ret_siT HB.out.1.symm HB.out.2.symm,Below.refl _ _⟩
 ·have HB:=Lib.hid (BAD.out (fun h=>hA h.2.1))
  have a1:(((at8 l 0).toNat:Int) != 34)=true:=by have:=u8_not hA;simp at this ⊢;omega
  clear hA
  go_enter Tryz.func68,Tryz.ntmps68
  simp only [B_mk]
  go_wp2_with fail
  go_ret2
  exact ⟨ret_siT HB.out.1.symm HB.out.2.symm,Below.refl _ _⟩
def qAt (s:Str) (i:Nat):Nat:=match scan (s.drop i) with | some n=>n+i | none=>0
theorem q_start (s:Str):quotedN s=qAt s 1:=rfl
theorem q_end {s:Str} {i:Nat} (h:s.length≤i):qAt s i=0:=by unfold qAt;rw [List.drop_of_length_le h];rfl
theorem q_quote {s:Str} {i:Nat} (h:i<s.length) (hc:at8 s i=34):qAt s i=i+1:=by
 unfold qAt;rw [drop_at h,hc,scan_end];simp;omega
theorem q_bs {s:Str} {i:Nat} (h:i<s.length) (hc:at8 s i=92):qAt s i=qAt s (i+2):=by
 unfold qAt
 rw [drop_at h,hc]
 by_cases h2:i+1<s.length
 ·rw [drop_at h2,scan_two]
  cases scan (s.drop (i+1+1)) <;> simp;omega
 ·rw [List.drop_of_length_le (show s.length≤i+1 by omega),List.drop_of_length_le (show s.length≤i+2 by omega)]
  simp [scan]
theorem q_other {s:Str} {i:Nat} (h:i<s.length) (h1:at8 s i≠34) (h2:at8 s i≠92):qAt s i=qAt s (i+1):=by
 unfold qAt
 rw [drop_at h,scan_one h1 h2]
 cases scan (s.drop (i+1)) <;> simp;omega
theorem qAt_le (s:Str) (i:Nat):qAt s i≤s.length:=by
 obtain ⟨k,hk⟩:∃ k,k=s.length - i:=⟨_,rfl⟩
 induction k using Nat.strongRecOn generalizing i with
 |_ k ih =>
  by_cases h:i<s.length
  ·by_cases h1:at8 s i=34
   ·rw [q_quote h h1];omega
   ·by_cases h2:at8 s i=92
    ·rw [q_bs h h2];exact ih (s.length - (i+2)) (by omega) _ rfl
    ·rw [q_other h h1 h2];exact ih (s.length - (i+1)) (by omega) _ rfl
  ·rw [q_end (by omega)];omega
theorem quoted_any (l:List UInt8) (w:World) (hl:l.length≤1000000) :
  Calls Tryz.prog 134 #[.string (B l)] w fun e w'=>e=.returned (.int .i64 (quotedN l:Nat))∧w'=w:=by
 have HQ:=Lib.hid (q_start l)
 go_enter Tryz.func134,Tryz.ntmps134
 go_wp2_with fail
 go_loop [3] (fun i=>∃ k:Nat,k≤l.length+1∧i=.int .i64 k∧quotedN l=qAt l k) (fun i=>l.length+1 - (intOf i).toNat)
 case atStart=>exact ⟨1,by omega,rfl,HQ.out⟩
 case round =>
  obtain ⟨k,hk,rfl,hq⟩:=hrel
  have HK:=Lib.hid hq
  clear hq
  by_cases hlt:k<l.length
  ·by_cases hb:at8 l k=92
   ·have e1:(((at8 l k).toNat:Int) == 92)=true:=u8_is hb
    have HB:=Lib.hid (q_bs hlt hb)
    clear hb
    go_wp2_with fail
    go_round
    case rel=>exact ⟨k+2,by omega,by go_num,by rw [HK.out,HB.out]⟩
    case measure=>simp [intOf];omega
   ·have e1:(((at8 l k).toNat:Int) == 92)=false:=u8_not hb
    by_cases hq:at8 l k=34
    ·have e2:(((at8 l k).toNat:Int) == 34)=true:=u8_is hq
     have HB:=Lib.hid (q_quote hlt hq)
     clear hb hq
     go_wp2_with fail
     go_ret
     exact ⟨ret_int (by rw [HK.out,HB.out];omega),rfl⟩
    ·have e2:(((at8 l k).toNat:Int) == 34)=false:=u8_not hq
     have HB:=Lib.hid (q_other hlt hq hb)
     clear hb hq
     go_wp2_with fail
     go_round
     case rel=>exact ⟨k+1,by omega,by go_num,by rw [HK.out,HB.out]⟩
     case measure=>simp [intOf];omega
  ·have HB:=Lib.hid (q_end (s:=l) (i:=k) (by omega))
   go_wp2_with fail
   go_ret
   exact ⟨ret_int (by rw [HK.out,HB.out];rfl),rfl⟩
theorem isWord_no {s:Str} {k:Nat} (h:k<s.length) (hc:wch (at8 s k)=false):isWord s=false:=by
 unfold isWord;rw [not_all_of h hc];simp
theorem isWord_yes {s:Str} (h:s≠[]) (ha:s.all wch=true):isWord s=true:=by unfold isWord;rw [ha];simp [h]
theorem wch_no1 {c:UInt8} (h:c.toNat≤32):wch c=false:=by unfold wch;rw [decide_eq_false (by omega:¬ 33≤c.toNat)];rfl
theorem wch_no2 {c:UInt8} (h:126<c.toNat):wch c=false:=by unfold wch;rw [decide_eq_false (by omega:¬ c.toNat≤126)];simp
theorem wch_no3 {c:UInt8} (h:c=34):wch c=false:=by subst h;rfl
theorem wch_yes {c:UInt8} (h:¬ c.toNat≤32) (h2:¬ 126<c.toNat) (h3:¬ c=34):wch c=true:=by
 unfold wch;rw [decide_eq_true (by omega:33≤c.toNat),decide_eq_true (by omega:c.toNat≤126)];simp [h3]
theorem word_any (l:List UInt8) (w:World) (hl:l.length≤1000000) :
  Calls Tryz.prog 135 #[.string (B l)] w fun e w'=>e=.returned (.bool (isWord l))∧w'=w:=by
 go_enter Tryz.func135,Tryz.ntmps135
 simp only [B_mk]
 go_wp2_with fail
 go_loop [3,6] (fun _ i=>∃ k:Nat,k≤l.length∧i=.int .i64 k∧(l.take k).all wch=true) (fun _ i=>l.length - (intOf i).toNat)
 case atStart=>exact ⟨0,by omega,rfl,by simp⟩
 case round =>
  obtain ⟨k,hk,rfl,ha⟩:=hrel
  have HA:=Lib.hid ha
  clear ha
  by_cases hlt:k<l.length
  ·have NO:=Lib.hid (@isWord_no l k hlt)
   by_cases h1:(at8 l k).toNat≤32
   ·have HB:=Lib.hid (NO.out (wch_no1 h1))
    have h1':((at8 l k).toNat:Int)≤32:=by omega
    clear h1
    go_wp2_with fail
    go_ret
    exact ⟨ret_bool HB.out.symm,rfl⟩
   ·have h1':¬ ((at8 l k).toNat:Int)≤32:=by omega
    by_cases h2:126<(at8 l k).toNat
    ·have HB:=Lib.hid (NO.out (wch_no2 h2))
     have h2':(126:Int)<((at8 l k).toNat:Int):=by omega
     clear h1 h2
     go_wp2_with fail
     go_ret
     exact ⟨ret_bool HB.out.symm,rfl⟩
    ·have h2':((at8 l k).toNat:Int)≤126:=by omega
     by_cases h3:at8 l k=34
     ·have HB:=Lib.hid (NO.out (wch_no3 h3))
      have h3':(((at8 l k).toNat:Int) == 34)=true:=u8_is h3
      clear h1 h2 h3
      go_wp2_with fail
      go_ret
      exact ⟨ret_bool HB.out.symm,rfl⟩
     ·have HB:=Lib.hid (all_take_succ hlt HA.out (wch_yes h1 h2 h3))
      have h3':(((at8 l k).toNat:Int) == 34)=false:=u8_not h3
      clear h1 h2 h3
      go_wp2_with fail
      go_round
      case rel=>exact ⟨k+1,by omega,by go_num,HB.out⟩
      case measure=>simp [intOf];omega
  ·have hall:=HA.out
   rw [List.take_of_length_le (by omega)] at hall
   by_cases h0:l=[]
   ·subst h0
    go_wp2_with fail
    go_ret
    exact ⟨rfl,rfl⟩
   ·have HB:=Lib.hid (isWord_yes h0 hall)
    have h0':(l == [])=false:=by simpa using h0
    have h0'':(!(l == []))=true:=by simpa using h0
    have h0b:(l != [])=true:=by simpa using h0
    clear h0 hall
    go_wp2_with fail
    go_ret
    exact ⟨ret_bool HB.out.symm,rfl⟩
theorem idx32_index:∀ (s:Str),Lib.indexByte s 32=if idx32 s<s.length then (idx32 s:Int) else -1:=by
 intro s
 induction s with
 |nil=>rfl
 |cons c t ih =>
  unfold Lib.indexByte
  by_cases h:c=32
  ·subst h
   have:idx32 (32 :: t)=0:=by simp [idx32]
   rw [this];simp
  ·have h2:idx32 (c :: t)=idx32 t+1:=by simp [idx32,h]
   rw [h2,ih]
   simp only [beq_iff_eq,h,if_false,List.length_cons]
   by_cases h3:idx32 t<t.length
   ·have h4:¬ ((idx32 t:Int) = -1):=by omega
    simp [h3,h4]
   ·simp [h3]
theorem index32_any (l:List UInt8) (w:World):Calls Tryz.prog 131 #[.string (B l),.int .u8 32] w fun e w'=>e=.returned (.int .i64 (if idx32 l<l.length then (idx32 l:Int) else -1))∧w'=w:=by
 refine (Tryz.strings_IndexByte (B l) 32 w).mono ?_
 rintro e w' ⟨rfl,rfl⟩
 refine ⟨?_,rfl⟩
 have h1:((32:Int)).toNat.toUInt8=32:=rfl
 rw [h1,show (B l).data.toList=l from by simp [B],idx32_index]
theorem unqE_cases (s:Str):unqE s=0∨unqE s=3:=by
 by_cases h:∃ t,s=quote t
 ·obtain ⟨t,rfl⟩:=h;exact .inl (unqE_quote t)
 ·exact .inr (unq_no (fun t e=>h ⟨t,e⟩)).2
theorem part_q1 {s:Str} (h:s.head? = some 34) (h2:unqE (s.take (quotedN s))=0):partN s=quotedN s:=by unfold partN;rw [if_pos h,if_pos h2]
theorem part_q0 {s:Str} (h:s.head? = some 34) (h2:unqE (s.take (quotedN s))=3):partN s=0:=by unfold partN;rw [if_pos h,if_neg (by rw [h2];decide)]
theorem part_w1 {s:Str} (h:s.head? ≠ some 34) (h2:isWord (s.take (idx32 s))=true):partN s=idx32 s:=by unfold partN;rw [if_neg h,if_pos h2]
theorem part_w0 {s:Str} (h:s.head? ≠ some 34) (h2:isWord (s.take (idx32 s))=false):partN s=0:=by unfold partN;rw [if_neg h,if_neg (by rw [h2];decide)]
theorem part_any (l:List UInt8) (w:World) (hl:l.length≤1000000) :
  Calls Tryz.prog 106 #[.string (B l)] w fun e w'=>e=.returned (.int .i64 (partN l:Nat))∧Below w.heap.size w w':=by
 have P1:=Lib.hid (@part_q1 l)
 have P0:=Lib.hid (@part_q0 l)
 have W1:=Lib.hid (@part_w1 l)
 have W0:=Lib.hid (@part_w0 l)
 have UC:=Lib.hid (unqE_cases (l.take (quotedN l)))
 have hqle:quotedN l≤l.length:=qAt_le l 1
 have hile:=idx32_le l
 by_cases hh:l.head? = some 34
 ·have hne:l≠[]:=by rintro rfl;cases hh
  have hlen:0<l.length:=List.length_pos_iff.2 hne
  have e0:(l == [])=false:=by simpa using hne
  have e0':(!(l == []))=true:=by simpa using hne
  have e0'':(l != [])=true:=by simpa using hne
  have e1:(((at8 l 0).toNat:Int) == 34)=true:=by
   have:=at8_zero_head l hne
   rw [hh] at this;injection this with this
   exact u8_is this.symm
  have PP1:=Lib.hid (P1.out hh)
  have PP0:=Lib.hid (P0.out hh)
  clear hh hne hile
  go_enter Tryz.func106,Tryz.ntmps106
  simp only [B_mk]
  go_wp2_with fail
  refine (quoted_any l w hl).mono ?_
  rintro e w' ⟨rfl,rfl⟩
  generalize quotedN l=n at *
  go_wp2_with fail
  refine (unquote_any (l.take n) _ (by rw [List.length_take];omega)).mono ?_
  rintro e w2 ⟨rfl,hb⟩
  rcases UC.out with hu | hu
  ·have HP:=Lib.hid (PP1.out hu)
   rw [hu]
   clear hu
   go_wp2_with fail
   go_ret
   exact ⟨ret_int (by rw [HP.out]),hb⟩
  ·have HP:=Lib.hid (PP0.out hu)
   rw [hu]
   clear hu
   go_wp2_with fail
   go_ret
   exact ⟨ret_int (by rw [HP.out];rfl),hb⟩
 ·by_cases h0:l=[]
  ·subst h0
   go_enter Tryz.func106,Tryz.ntmps106
   simp only [B_mk]
   go_wp2_with fail
   refine (index32_any [] w).mono ?_
   rintro e w' ⟨rfl,rfl⟩
   rw [if_neg (by simp)]
   go_wp2_with fail
   refine (word_any [] _ (by simp)).mono ?_
   rintro e w2 ⟨rfl,rfl⟩
   go_wp2_with fail
   go_ret
   exact ⟨ret_int (by rw [W0.out (by simp) rfl];rfl),Below.refl _ _⟩
  ·have h2:0<l.length:=List.length_pos_iff.2 h0
   have hc:¬ at8 l 0=34:=fun e=>hh (by rw [at8_zero_head l h0,e])
   have h3:(((at8 l 0).toNat:Int) == 34)=false:=u8_not hc
   have h1:(l == [])=false:=by simpa using h0
   have h1':(!(l == []))=true:=by simpa using h0
   have h1'':(l != [])=true:=by simpa using h0
   have WW1:=Lib.hid (W1.out hh)
   have WW0:=Lib.hid (W0.out hh)
   clear hh hc h0
   go_enter Tryz.func106,Tryz.ntmps106
   simp only [B_mk]
   go_wp2_with fail
   refine (index32_any l w).mono ?_
   rintro e w' ⟨rfl,rfl⟩
   generalize idx32 l=n at *
   by_cases hn:n<l.length
   ·rw [if_pos hn]
    go_wp2_with fail
    refine (word_any (l.take n) _ (by rw [List.length_take];omega)).mono ?_
    rintro e w2 ⟨rfl,rfl⟩
    cases hw:isWord (l.take n)
    ·have HP:=Lib.hid (WW0.out hw)
     clear hw
     go_wp2_with fail
     go_ret
     exact ⟨ret_int (by rw [HP.out];rfl),Below.refl _ _⟩
    ·have HP:=Lib.hid (WW1.out hw)
     clear hw
     go_wp2_with fail
     go_ret
     exact ⟨ret_int (by rw [HP.out]),Below.refl _ _⟩
   ·rw [if_neg hn]
    obtain rfl:n=l.length:=by omega
    have htl:List.take l.length l=l:=List.take_of_length_le (Nat.le_refl _)
    rw [htl] at WW0 WW1
    go_wp2_with fail
    refine (word_any l _ hl).mono ?_
    rintro e w2 ⟨rfl,rfl⟩
    cases hw:isWord l
    ·have HP:=Lib.hid (WW0.out hw)
     clear hw
     go_wp2_with fail
     go_ret
     exact ⟨ret_int (by rw [HP.out];rfl),Below.refl _ _⟩
    ·have HP:=Lib.hid (WW1.out hw)
     clear hw
     go_wp2_with fail
     go_ret
     exact ⟨ret_int (by rw [HP.out]),Below.refl _ _⟩
def wInv (l s:Str) (os:List Str):Prop:=(∀ p ∈ os,isPart p)∧((os=[]∧s=l)∨(os≠[]∧s≠[]∧l=joinP os ++ 32 :: s))
theorem wInv_start (l:Str):wInv l l []:=⟨by simp,.inl ⟨rfl,rfl⟩⟩
theorem wInv_line {l s:Str} {os ps:List Str} (h:wInv l s os) (hs:s≠[]) (hl:lineOK l ps):∃ p ps',lineOK s (p :: ps'):=by
 obtain ⟨ho,⟨rfl,rfl⟩ | ⟨h1,h2,h3⟩⟩:=h
 ·cases ps with
  |nil=>exact absurd hl.2 hs
  |cons p ps=>exact ⟨p,ps,hl⟩
 ·rw [h3] at hl
  obtain ⟨ps',h4,_,h6⟩:=line_split os ps s h1 hs ho hl
  cases ps' with
  |nil=>exact absurd rfl h4
  |cons p ps'=>exact ⟨p,ps',h6⟩
theorem words_bad0 {l s:Str} {os:List Str} (h:wInv l s os) (hs:s≠[]) (hn:partN s=0):wordsL l=[]∧wordsE l=3:=words_no (fun ps hl=>by
 obtain ⟨p,ps',h1⟩:=wInv_line h hs hl
 have h2:=(line_head h1).1
 have h3:=List.length_pos_iff.2 (isPart_ne (h1.1 p (by simp)))
 omega)
theorem words_bad1 {l s:Str} {os:List Str} (h:wInv l s os) (hs:s≠[]) (hn:partN s<s.length) (hb:at8 s (partN s)≠32∨partN s+1=s.length):wordsL l=[]∧wordsE l=3:=words_no (fun ps hl=>by
 obtain ⟨p,ps',h1⟩:=wInv_line h hs hl
 obtain ⟨h2,h3⟩:=line_head h1
 rcases h3 with ⟨_,e⟩ | ⟨hne,e⟩
 ·rw [h2,e] at hn;omega
 ·have h4:=joinP_ne hne (fun q hq=>h1.1 q (by simp [hq]))
  rw [h2] at hb
  rcases hb with hb | hb
  ·apply hb
   rw [e];unfold at8;simp
  ·rw [e,List.length_append,List.length_cons] at hb
   have:=List.length_pos_iff.2 h4
   omega)
theorem words_last {l s:Str} {os:List Str} (h:wInv l s os) (hs:s≠[]) (hn:partN s=s.length):wordsL l=os ++ [s]∧wordsE l=0:=by
 have hp:isPart s:=by
  have:=(isPart_of (s:=s) (by rw [hn];exact List.length_pos_iff.2 hs)).1
  rwa [hn,List.take_of_length_le (Nat.le_refl _)] at this
 obtain ⟨ho,h1⟩:=h
 refine words_ok ⟨?_,?_⟩
 ·intro p hp'
  rw [List.mem_append] at hp'
  rcases hp' with hp' | hp'
  ·exact ho p hp'
  ·simp at hp';rw [hp'];exact hp
 ·rcases h1 with ⟨rfl,rfl⟩ | ⟨h1,h2,h3⟩
  ·rfl
  ·rw [joinP_append h1 (by simp)];exact h3
theorem words_step {l s:Str} {os:List Str} (h:wInv l s os) (h0:0<partN s) (hn:partN s+1<s.length) (hb:at8 s (partN s)=32):wInv l (s.drop (partN s+1)) (os ++ [s.take (partN s)]):=by
 have hp:=(isPart_of h0).1
 obtain ⟨ho,h1⟩:=h
 have hs:s=s.take (partN s) ++ 32 :: s.drop (partN s+1):=by
  conv=>lhs;rw [← List.take_append_drop (partN s) s]
  rw [drop_at (by omega),hb]
 refine ⟨?_,.inr ⟨by simp,?_,?_⟩⟩
 ·intro p hp'
  rw [List.mem_append] at hp'
  rcases hp' with hp' | hp'
  ·exact ho p hp'
  ·simp at hp';rw [hp'];exact hp
 ·intro e
  have:=congrArg List.length e
  rw [List.length_drop,List.length_nil] at this;omega
 ·rcases h1 with ⟨rfl,rfl⟩ | ⟨h1,h2,h3⟩
  ·exact hs
  ·rw [joinP_append h1 (by simp),h3]
   conv=>lhs;rw [hs]
   simp [joinP]
theorem words_empty {l:Str} {os:List Str} (h:wInv l [] os):os=[]∧wordsL l=[]∧wordsE l=0:=by
 obtain ⟨_,⟨rfl,rfl⟩ | ⟨_,h2,_⟩⟩:=h
 ·exact ⟨rfl,words_ok ⟨by simp,rfl⟩⟩
 ·exact absurd rfl h2
theorem ret_ti {A A':Option Addr} {n m c c':Nat} {a b:Int} (hA:A=A') (h:n=m) (hc:c=c') (h2:a=b):Ending.returned (.tuple #[.slice A n c,.int .i64 a])=.returned (.tuple #[.slice A' m c',.int .i64 b]):=by rw [hA,h,hc,h2]
set_option maxHeartbeats 1000000 in
theorem words_any (l:List UInt8) (w:World) (hl:l.length≤100000) :
  Calls Tryz.prog 71 #[.string (B l)] w fun e w'=>∃ A c,e=.returned (.tuple #[.slice A (wordsL l).length c,.int .i64 (wordsE l)])∧OwnS w' w.heap.size 9 A (wordsL l).length c (strs (wordsL l))∧Below w.heap.size w w':=by
 go_enter Tryz.func71,Tryz.ntmps71
 simp only [B_mk]
 go_wp2_with fail
 go_loopw [0,4,5] (fun sv v _ wr=>∃ (s:List UInt8) (os:List (List UInt8)) (A:Option Addr) (c:Nat),sv=.string (B s)∧v=.slice A os.length c∧wInv l s os∧os.length+s.length≤l.length∧OwnS wr w.heap.size 9 A os.length c (strs os)∧Below w.heap.size w wr) (fun sv _ _ _=>match sv with | .string s=>s.size | _=>0)
 case atStart=>exact ⟨l,[],none,0,rfl,rfl,wInv_start l,by simp,OwnS.nil _ _ _,Below.refl _ _⟩
 case round =>
  obtain ⟨s,os,A,c,rfl,rfl,hinv,hsz,hown,hbel⟩:=hrel
  have HI:=Lib.hid hinv
  clear hinv
  by_cases h0:s=[]
  ·subst h0
   have HE:=words_empty HI.out
   obtain ⟨rfl,he⟩:=HE
   have HB:=Lib.hid he
   clear he
   go_wp2_with fail
   go_ret2
   rw [HB.out.1,HB.out.2]
   exact ⟨A,c,rfl,hown,hbel⟩
  have h1:(s == [])=false:=by simpa using h0
  have h1':(!(s == []))=true:=by simpa using h0
  have h1'':(s != [])=true:=by simpa using h0
  have hspos:0<s.length:=List.length_pos_iff.2 h0
  have B0:=Lib.hid (words_bad0 HI.out h0)
  have B1:=Lib.hid (words_bad1 HI.out h0)
  have BL:=Lib.hid (words_last HI.out h0)
  have BS:=Lib.hid (@words_step l s os HI.out)
  have PL:=Lib.hid (fun h=>(@isPart_of s h).2)
  clear h0
  go_wp2_with fail
  refine (part_any s wr (by omega)).mono ?_
  rintro e w2 ⟨rfl,hb2⟩
  have hown2:=hown.below hb2
  have hbel2:=hbel.trans (hb2.mono hbel.size)
  clear hown hb2 hbel
  generalize partN s=n at *
  by_cases hn0:n=0
  ·have HB:=Lib.hid (B0.out hn0)
   have e1:((n:Int) == 0)=true:=by simp;omega
   clear hn0
   go_wp2_with fail
   go_ret2
   rw [HB.out.1,HB.out.2]
   exact ⟨none,0,rfl,OwnS.nil _ _ _,hbel2⟩
  have e1:((n:Int) == 0)=false:=by rw [beq_eq_false_iff_ne];omega
  have hnl:=PL.out (by omega)
  by_cases hnn:n=s.length
  ·have HB:=Lib.hid (BL.out hnn)
   have e2:((n:Int) == (s.length:Int))=true:=by simp;omega
   clear hn0 hnn
   go_wp2_with (at_builtin;refine wp_app1 el_string rfl _ _ rfl w.heap.size _ _ _ (strs os) _ (.string (B s)) rfl hown2 rfl rfl (by unfold maxLen;omega) (by omega) hbel2.size ?_;intro A' c' w3 hown3 hb3)
   go_ret2
   rw [snoc_strs] at hown3
   rw [HB.out.1,HB.out.2]
   exact ⟨A',c',by simp,by simpa using hown3,hbel2.trans hb3⟩
  have e2:((n:Int) == (s.length:Int))=false:=by rw [beq_eq_false_iff_ne];omega
  have hlt0:(n:Int)<(s.length:Int):=by omega
  by_cases hb:at8 s n=32
  ·have e3:(((at8 s n).toNat:Int) != 32)=false:=by rw [hb];rfl
   by_cases hend:n+1=s.length
   ·have HB:=Lib.hid (B1.out (by omega) (.inr hend))
    have e4:(((n:Int)+1) == (s.length:Int))=true:=by simp;omega
    clear hn0 hnn hb hend
    go_wp2_with fail
    go_ret2
    rw [HB.out.1,HB.out.2]
    exact ⟨none,0,rfl,OwnS.nil _ _ _,hbel2⟩
   ·have HB:=Lib.hid (BS.out (by omega) (by omega) hb)
    have e4:(((n:Int)+1) == (s.length:Int))=false:=by rw [beq_eq_false_iff_ne];omega
    have hlt:n+1<s.length:=by omega
    clear hn0 hnn hb hend
    go_wp2_with (at_builtin;refine wp_app1 el_string rfl _ _ rfl w.heap.size _ _ _ (strs os) _ (.string (B (s.take n))) rfl hown2 rfl rfl (by unfold maxLen;omega) (by omega) hbel2.size ?_;intro A' c' w3 hown3 hb3)
    go_roundw
    case rel =>
     rw [snoc_strs] at hown3
     exact ⟨s.drop (n+1),os ++ [s.take n],A',c',by simp,by simp,HB.out,by simp;omega,by simpa using hown3,hbel2.trans hb3⟩
    case measure=>simp [B_size];omega
  ·have HB:=Lib.hid (B1.out (by omega) (.inl hb))
   have e3:(((at8 s n).toNat:Int) != 32)=true:=by have:=u8_not hb;simp at this ⊢;omega
   clear hn0 hnn hb
   go_wp2_with fail
   go_ret2
   rw [HB.out.1,HB.out.2]
   exact ⟨none,0,rfl,OwnS.nil _ _ _,hbel2⟩
theorem join_joinP:∀ ps:List Str,Lib.join ps [32]=joinP ps:=by
 intro ps
 induction ps with
 |nil=>rfl
 |cons p r ih =>
  cases r with
  |nil=>simp [Lib.join,joinP,List.intercalate]
  |cons q r =>
   rw [joinP]
   rw [← ih]
   simp [Lib.join,List.intercalate]
theorem join_any (ps:List Str) (A:Option Addr) (c:Nat) (w:World) (hc:Cells w A (strs ps)) (hn:ps.length≤c) (hl:(joinP ps).length≤1000000000) (hl2:ps.length≤1000000000) :
  Calls Tryz.prog 63 #[.slice A ps.length c] w fun e w'=>e=.returned (.string (B (joinP ps)))∧Below w.heap.size w w':=by
 have key:Calls Tryz.prog 95 #[.slice A ps.length c,.string (B [32])] w fun e w'=>e=.returned (.string (B (joinP ps)))∧Below w.heap.size w w':=by
  by_cases h0:ps=[]
  ·subst h0
   refine (Tryz.strings_Join_none A c (B [32]) w).mono ?_
   rintro e w' ⟨rfl,rfl⟩
   exact ⟨rfl,Below.refl _ _⟩
  ·obtain ⟨b,off,rfl,hb,hcell⟩:=hc (by rw [strs_length];exact List.length_pos_iff.2 h0)
   have hm:(ps.map B).map (fun x=>x.data.toList)=ps:=by
    rw [List.map_map]
    conv=>rhs;rw [← List.map_id ps]
    apply List.map_congr_left
    intro x _
    simp [B]
   have hs:(B [32]).data.toList=[32]:=rfl
   have:=Tryz.strings_Join b off c (ps.map B) (B [32]) w (by
    intro j x hj
    apply hcell j (.string x)
    rw [List.getElem?_map] at hj
    unfold strs
    rw [List.getElem?_map]
    cases h:ps[j]? with
    |none=>rw [h] at hj;cases hj
    |some y=>rw [h] at hj;injection hj with hj;rw [← hj];rfl) hb (by rw [List.length_map];omega) (by rw [List.length_map];exact hn) (by rw [hm,hs,join_joinP];omega)
   rw [List.length_map,hm,hs,join_joinP] at this
   exact this
 go_enter Tryz.func63,Tryz.ntmps63
 simp only [B_mk]
 go_wp2_with fail
 refine key.mono ?_
 rintro e w' ⟨rfl,hb⟩
 go_wp2_with fail
 go_ret
 exact ⟨rfl,hb⟩
end Go.Proofs.YtljekdpgjaahjaaGreatDoor

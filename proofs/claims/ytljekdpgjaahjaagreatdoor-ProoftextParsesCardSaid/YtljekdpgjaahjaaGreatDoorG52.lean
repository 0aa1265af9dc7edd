/- text.form, Quote. -/
import Derived.Test.YtljekdpgjaahjaaGreatDoorG3
import Derived.Test.YtljekdpgjaahjaaGreatDoorG54
import Derived.Test.YtljekdpgjaahjaaGreatDoorShelf
import Derived.Lib.Bytealg
import Derived.Deep.QuietTactic
import Derived.BigQuiet
namespace Go.Proofs.YtljekdpgjaahjaaGreatDoor
open Go.RowKit Num Txt
set_option linter.unusedVariables false
attribute [local go_sem] B_size B_get B_toList B_mk B_extract B_append
theorem bytes_append (a b:List UInt8):bytes (a ++ b)=bytes a ++ bytes b:=by simp [bytes]
theorem bytes_one' (a:List UInt8):∀ u ∈ bytes a,u.oneCell'=true:=by
 intro u hu;simp [bytes] at hu;obtain ⟨x,_,rfl⟩:=hu;rfl
theorem form_qb {c:UInt8} (h:c=34∨c=92):form c=[92,c]:=by unfold form;rw [if_pos h]
theorem form_nl {c:UInt8} (h:c=10):form c=[92,110]:=by subst h;rfl
theorem form_hex {c:UInt8} (h:¬ (c=34∨c=92)) (h2:¬ c=10) (h3:c.toNat<32∨126<c.toNat):form c=[92,120,hexd (c.toNat / 16),hexd (c.toNat % 16)]:=by unfold form;rw [if_neg h,if_neg h2,if_pos h3]
theorem form_plain {c:UInt8} (h:¬ (c=34∨c=92)) (h2:¬ c=10) (h3:¬ (c.toNat<32∨126<c.toNat)):form c=[c]:=by unfold form;rw [if_neg h,if_neg h2,if_neg h3]
def hexL:List UInt8:=[48,49,50,51,52,53,54,55,56,57,97,98,99,100,101,102]
theorem hexL_at:∀ n,n<16→at8 hexL n=hexd n:=by decide
theorem and15:∀ n:Nat,n<256→bits BinOp.and IntKind.u8 (n:Int) 15=((n % 16:Nat):Int):=by decide +kernel
theorem u8_eq (c k:UInt8):((c.toNat:Int) == (k.toNat:Int))=decide (c=k):=by
 by_cases h:c=k
 ·rw [h];simp
 ·have:¬ c.toNat=k.toNat:=fun e=>h (UInt8.toNat_inj.1 e)
  rw [beq_eq_false_iff_ne.2 (by omega)];simp [h]
set_option maxHeartbeats 1000000 in
set_option maxRecDepth 100000 in
theorem form_any (xs:List UInt8) (A:Option Addr) (n cp:Nat) (c:UInt8) (Bs:Nat) (w:World) (hown:OwnS w Bs 5 A n cp (bytes xs)) (hB:Bs≤w.heap.size) (hn:n≤1000000) :
  Calls Tryz.prog 86 #[.slice A n cp,.int .u8 c.toNat] w fun e w'=>∃ A' cp',e=.returned (.slice A' (n+(form c).length) cp')∧OwnS w' Bs 5 A' (n+(form c).length) cp' (bytes (xs ++ form c))∧Below Bs w w':=by
 have hc:=c.toNat_lt
 have hal:∀ cs,Below Bs w (w.alloc (.cells cs 5)):=fun cs=>(Below.refl _ _).alloc hB _
 have e1:=u8_eq c 34
 have e2:=u8_eq c 92
 have e3:=u8_eq c 10
 simp only [show ((34:UInt8).toNat:Int)=34 from rfl,show ((92:UInt8).toNat:Int)=92 from rfl,show ((10:UInt8).toNat:Int)=10 from rfl] at e1 e2 e3
 by_cases hqb:c=34∨c=92
 ·have HF:=Lib.hid (form_qb hqb)
  have HC:=Lib.hid (show ([92,c]:List UInt8).length=2 from rfl)
  have two:(decide (c=34)=true)∨(decide (c=34)=false∧decide (c=92)=true):=by
   by_cases h:c=34
   ·exact .inl (by simp [h])
   ·exact .inr ⟨by simp [h],by simpa [h] using hqb⟩
  clear hqb
  rcases two with h1 | ⟨h1,h2⟩
  all_goals
   first | rw [h1] at e1 | skip
   first | rw [h2] at e2 | skip
   have cell:Cells (w.alloc (.cells #[.int .u8 92,.int .u8 c.toNat] 5)) (some ⟨w.heap.size,0,none⟩) (bytes [92,c]):=(OwnS.lit w 5 #[.int .u8 92,.int .u8 c.toNat] w.heap.size 2 (Nat.le_refl _) rfl (by unfold maxLen;omega)).cells
   go_enter Tryz.func86,Tryz.ntmps86
   go_wp2_with (at_builtin;refine wp_appn el_byte rfl _ _ rfl Bs _ _ _ _ _ _ 2 2 (bytes [92,c]) rfl (hown.alloc _) rfl rfl cell (bytes_one' _) (by unfold maxLen;omega) (by omega) (Nat.le_trans hB (hal _).size) ?_;intro A' c' w1 hown1 hb1)
   go_ret
   refine ⟨A',c',?_,?_,(hal _).trans hb1⟩
   ·rw [HF.out];rfl
   ·rw [HF.out,bytes_append];exact hown1
 ·by_cases hnl:c=10
  ·have HF:=Lib.hid (form_nl hnl)
   have h1:decide (c=34)=false:=by simp;exact fun h=>hqb (.inl h)
   have h2:decide (c=92)=false:=by simp;exact fun h=>hqb (.inr h)
   have h3:decide (c=10)=true:=by simpa using hnl
   rw [h1] at e1;rw [h2] at e2;rw [h3] at e3
   clear hqb hnl h1 h2 h3
   have cell:Cells (w.alloc (.cells #[.int .u8 92,.int .u8 110] 5)) (some ⟨w.heap.size,0,none⟩) (bytes [92,110]):=(OwnS.lit w 5 #[.int .u8 92,.int .u8 110] w.heap.size 2 (Nat.le_refl _) rfl (by unfold maxLen;omega)).cells
   go_enter Tryz.func86,Tryz.ntmps86
   go_wp2_with (at_builtin;refine wp_appn el_byte rfl _ _ rfl Bs _ _ _ _ _ _ 2 2 (bytes [92,110]) rfl (hown.alloc _) rfl rfl cell (bytes_one' _) (by unfold maxLen;omega) (by omega) (Nat.le_trans hB (hal _).size) ?_;intro A' c' w1 hown1 hb1)
   go_ret
   refine ⟨A',c',?_,?_,(hal _).trans hb1⟩
   ·rw [HF.out];rfl
   ·rw [HF.out,bytes_append];exact hown1
  ·by_cases hx:c.toNat<32∨126<c.toNat
   ·have HF:=Lib.hid (form_hex hqb hnl hx)
    have h1:decide (c=34)=false:=by simp;exact fun h=>hqb (.inl h)
    have h2:decide (c=92)=false:=by simp;exact fun h=>hqb (.inr h)
    have h3:decide (c=10)=false:=by simpa using hnl
    rw [h1] at e1;rw [h2] at e2;rw [h3] at e3
    clear hqb hnl h1 h2 h3
    have ha:=and15 c.toNat (by omega)
    have i1:((c.toNat:Int) / 16).toNat=c.toNat / 16:=by omega
    have i2:((c.toNat:Int) % 16).toNat=c.toNat % 16:=by omega
    have i3:0≤(c.toNat:Int) / 16:=by omega
    have i4:(c.toNat:Int) / 16<16:=by omega
    have i5:0≤(c.toNat:Int) % 16:=by omega
    have i6:(c.toNat:Int) % 16<16:=by omega
    have H1:=hexL_at (c.toNat / 16) (by omega)
    have H2:=hexL_at (c.toNat % 16) (by omega)
    have HH1:=Lib.hid H1
    have HH2:=Lib.hid H2
    unfold hexL at H1 H2
    generalize hx1:hexd (c.toNat / 16)=x1 at *
    generalize hx2:hexd (c.toNat % 16)=x2 at *
    have own4:OwnS (w.alloc (.cells #[.int .u8 92,.int .u8 120,.int .u8 x1.toNat,.int .u8 x2.toNat] 5)).drew Bs 5 A n cp (bytes xs):=hown.below (((Below.refl _ _).alloc (Nat.le_refl _) _).drew)
    have cell4:Cells (w.alloc (.cells #[.int .u8 92,.int .u8 120,.int .u8 x1.toNat,.int .u8 x2.toNat] 5)).drew (some ⟨w.heap.size,0,none⟩) (bytes [92,120,x1,x2]):=(OwnS.lit w 5 #[.int .u8 92,.int .u8 120,.int .u8 x1.toNat,.int .u8 x2.toNat] w.heap.size 4 (Nat.le_refl _) rfl (by unfold maxLen;omega)).cells.below ((Below.refl _ _).drew)
    have hal4:Below Bs w (w.alloc (.cells #[.int .u8 92,.int .u8 120,.int .u8 x1.toNat,.int .u8 x2.toNat] 5)).drew:=(hal _).drew
    have hsz4:Bs≤((w.alloc (.cells #[.int .u8 92,.int .u8 120,.int .u8 x1.toNat,.int .u8 x2.toNat] 5)).drew).heap.size:=Nat.le_trans hB hal4.size
    clear HH1 HH2
    rcases hx with hx | hx
    ·have hx':(c.toNat:Int)<32:=by omega
     go_enter Tryz.func86,Tryz.ntmps86
     simp only [B_mk]
     go_wp2_with fail
     go_region_law (refine step_appn el_byte rfl _ _ rfl Bs A n cp (bytes xs) _ ⟨w.heap.size,0,none⟩ 4 4 (bytes [92,120,x1,x2]) rfl own4 rfl rfl cell4 (bytes_one' _) (by unfold maxLen;omega) (by omega) hsz4 ?_;intro A' c' w1 hown1 hb1)
     all_goals
      go_wp2_with fail
      go_ret
      refine ⟨A',c',?_,?_,hal4.trans hb1⟩
      ·rw [HF.out];rfl
      ·rw [HF.out,bytes_append];exact hown1
    ·have hx':¬ (c.toNat:Int)<32:=by omega
     have hx'':(126:Int)<(c.toNat:Int):=by omega
     go_enter Tryz.func86,Tryz.ntmps86
     simp only [B_mk]
     go_wp2_with fail
     go_region_law (refine step_appn el_byte rfl _ _ rfl Bs A n cp (bytes xs) _ ⟨w.heap.size,0,none⟩ 4 4 (bytes [92,120,x1,x2]) rfl own4 rfl rfl cell4 (bytes_one' _) (by unfold maxLen;omega) (by omega) hsz4 ?_;intro A' c' w1 hown1 hb1)
     all_goals
      go_wp2_with fail
      go_ret
      refine ⟨A',c',?_,?_,hal4.trans hb1⟩
      ·rw [HF.out];rfl
      ·rw [HF.out,bytes_append];exact hown1
   ·have HF:=Lib.hid (form_plain hqb hnl hx)
    have h1:decide (c=34)=false:=by simp;exact fun h=>hqb (.inl h)
    have h2:decide (c=92)=false:=by simp;exact fun h=>hqb (.inr h)
    have h3:decide (c=10)=false:=by simpa using hnl
    rw [h1] at e1;rw [h2] at e2;rw [h3] at e3
    clear hqb hnl h1 h2 h3
    have hx1:¬ (c.toNat:Int)<32:=by omega
    have hx2:(c.toNat:Int)≤126:=by omega
    clear hx
    go_enter Tryz.func86,Tryz.ntmps86
    simp only [B_mk]
    go_wp2_with (at_builtin;refine wp_app1 el_byte rfl _ _ rfl Bs _ _ _ (bytes xs) _ (.int .u8 c.toNat) rfl hown rfl rfl (by unfold maxLen;omega) (by omega) hB ?_;intro A' c' w1 hown1 hb1)
    go_ret
    refine ⟨A',c',?_,?_,hb1⟩
    ·rw [HF.out];rfl
    ·rw [HF.out,bytes_append];exact hown1
def hx (b:UInt8):Int:=Lib.indexByte hexL b
theorem hx_all:∀ n:Nat,n<256→(hx (UInt8.ofNat n) = -1∧∀ k:Nat,k<16→hexd k≠UInt8.ofNat n)∨(0≤hx (UInt8.ofNat n)∧hx (UInt8.ofNat n)<16∧hexd (hx (UInt8.ofNat n)).toNat=UInt8.ofNat n):=by decide +kernel
theorem hx_spec (b:UInt8):(hx b = -1∧∀ k:Nat,k<16→hexd k≠b)∨(0≤hx b∧hx b<16∧hexd (hx b).toNat=b):=by
 have:=hx_all b.toNat b.toNat_lt
 rwa [UInt8.ofNat_toNat] at this
theorem index_any (b:UInt8) (w:World):Calls Tryz.prog 131 #[.string (B hexL),.int .u8 b.toNat] w fun e w'=>e=.returned (.int .i64 (hx b))∧w'=w:=by
 refine (Tryz.strings_IndexByte (B hexL) b.toNat w).mono ?_
 rintro e w' ⟨rfl,rfl⟩
 refine ⟨?_,rfl⟩
 have h1:((b.toNat:Int)).toNat.toUInt8=b:=by rw [Int.toNat_natCast];simp
 rw [h1];rfl
theorem form92 {c:UInt8} {x t:Str} (h:92 :: t=form c ++ x) :
  ((c=34∨c=92)∧t=c :: x)∨(c=10∧t=110 :: x)∨((c.toNat<32∨126<c.toNat)∧c≠10∧t=120 :: hexd (c.toNat / 16) :: hexd (c.toNat % 16) :: x):=by
 by_cases h1:c=34∨c=92
 ·rw [form_qb h1] at h;simp at h;exact .inl ⟨h1,h⟩
 ·by_cases h2:c=10
  ·rw [form_nl h2] at h;simp at h;exact .inr (.inl ⟨h2,h⟩)
  ·by_cases h3:c.toNat<32∨126<c.toNat
   ·rw [form_hex h1 h2 h3] at h;simp at h;exact .inr (.inr ⟨h3,h2,h⟩)
   ·rw [form_plain h1 h2 h3] at h;simp at h;exact absurd (.inr h.1.symm) h1
def escOK (t:Str) (d:UInt8) (n:Nat):Prop:=(n=0∧∀ c x,92 :: t≠form c ++ x)∨(0<n∧n≤3∧n≤t.length∧92 :: t.take n=form d)
theorem esc_nil:escOK [] 0 0:=.inl ⟨rfl,fun c x h=>by
 rcases form92 h with ⟨_,h⟩ | ⟨_,h⟩ | ⟨_,_,h⟩ <;> simp at h⟩
theorem esc_qb {c:UInt8} {t:Str} (h:c=34∨c=92):escOK (c :: t) c 1:=.inr ⟨by omega,by omega,by simp,by rw [form_qb h];rfl⟩
theorem esc_n (t:Str):escOK (110 :: t) 10 1:=.inr ⟨by omega,by omega,by simp,rfl⟩
theorem esc_other {c:UInt8} {t:Str} (h:¬ (c=34∨c=92)) (h2:c≠110) (h3:c≠120):escOK (c :: t) 0 0:=.inl ⟨rfl,fun d x e=>by
 rcases form92 e with ⟨hd,e⟩ | ⟨_,e⟩ | ⟨_,_,e⟩ <;> simp only [List.cons.injEq] at e
 ·rw [e.1] at h;exact h hd
 ·exact h2 e.1
 ·exact h3 e.1⟩
theorem esc_short {t:Str} (h:t.length<2):escOK (120 :: t) 0 0:=.inl ⟨rfl,fun d x e=>by
 rcases form92 e with ⟨hd,e⟩ | ⟨_,e⟩ | ⟨_,_,e⟩ <;> simp only [List.cons.injEq] at e
 ·rw [← e.1] at hd;rcases hd with h | h <;> cases h
 ·exact absurd e.1 (by decide)
 ·rw [e.2] at h;simp at h;omega⟩
theorem esc_nohex {a b:UInt8} {t:Str} (h:hx a = -1∨hx b = -1):escOK (120 :: a :: b :: t) 0 0:=.inl ⟨rfl,fun d x e=>by
 rcases form92 e with ⟨hd,e⟩ | ⟨_,e⟩ | ⟨_,_,e⟩ <;> simp only [List.cons.injEq] at e
 ·rw [← e.1] at hd;rcases hd with h | h <;> cases h
 ·exact absurd e.1 (by decide)
 ·have hd:=d.toNat_lt
  rcases h with h | h
  ·rcases hx_spec a with ⟨_,h1⟩ | ⟨h1,_⟩
   ·exact h1 (d.toNat / 16) (by omega) e.2.1.symm
   ·omega
  ·rcases hx_spec b with ⟨_,h1⟩ | ⟨h1,_⟩
   ·exact h1 (d.toNat % 16) (by omega) e.2.2.1.symm
   ·omega⟩
theorem esc_hex {a b:UInt8} {t:Str} {c:Nat} (h:0≤hx a) (h2:0≤hx b) (hc:(c:Int)=16*hx a+hx b) :
  (c=10∨32≤c∧c≤126→escOK (120 :: a :: b :: t) 0 0)∧(¬ (c=10∨32≤c∧c≤126)→escOK (120 :: a :: b :: t) (UInt8.ofNat c) 3):=by
 rcases hx_spec a with ⟨ha,_⟩ | ⟨_,ha1,ha2⟩
 ·omega
 rcases hx_spec b with ⟨hb,_⟩ | ⟨_,hb1,hb2⟩
 ·omega
 have hq:(hx a).toNat=c / 16:=by omega
 have hr:(hx b).toNat=c % 16:=by omega
 have hcl:c<256:=by omega
 rw [hq] at ha2
 rw [hr] at hb2
 constructor
 ·intro hbad
  refine .inl ⟨rfl,fun d x e=>?_⟩
  rcases form92 e with ⟨hd,e⟩ | ⟨_,e⟩ | ⟨h3,h10,e⟩ <;> simp only [List.cons.injEq] at e
  ·rw [← e.1] at hd;rcases hd with h | h <;> cases h
  ·exact absurd e.1 (by decide)
  ·have hd:=d.toNat_lt
   have e1:=hexd_inj (by omega) (by omega) (ha2.trans e.2.1)
   have e2:=hexd_inj (by omega) (by omega) (hb2.trans e.2.2.1)
   have:¬ d.toNat=10:=fun e=>h10 (UInt8.toNat_inj.1 e)
   omega
 ·intro hgood
  refine .inr ⟨by omega,by omega,by simp,?_⟩
  have ht:(UInt8.ofNat c).toNat=c:=by rw [UInt8.toNat_ofNat'];omega
  have n1:¬ (UInt8.ofNat c=34∨UInt8.ofNat c=92):=by
   rintro (e | e)
   ·have:=congrArg UInt8.toNat e;rw [ht] at this;simp at this;omega
   ·have:=congrArg UInt8.toNat e;rw [ht] at this;simp at this;omega
  have n2:¬ UInt8.ofNat c=10:=by
   intro e
   have:=congrArg UInt8.toNat e;rw [ht] at this;simp at this;omega
  rw [form_hex n1 n2 (by rw [ht];omega),ht,ha2,hb2];rfl
theorem or16:∀ h:Nat,h<16→∀ l:Nat,l<16→bits BinOp.or IntKind.i64 (16*(h:Int)) (l:Int)=16*(h:Int)+(l:Int):=by decide +kernel
theorem u8_is {c k:UInt8} (h:c=k):((c.toNat:Int) == (k.toNat:Int))=true:=by rw [h];simp
theorem u8_not {c k:UInt8} (h:¬ c=k):((c.toNat:Int) == (k.toNat:Int))=false:=by rw [u8_eq];simp [h]
theorem esc_val {a b:UInt8} (h:0≤hx a) (h2:0≤hx b):∃ c:Nat,(c:Int)=16*hx a+hx b∧c<256∧bits BinOp.or IntKind.i64 (hx a*16) (hx b)=(c:Int):=by
 rcases hx_spec a with ⟨ha,_⟩ | ⟨_,ha1,ha2⟩
 ·omega
 rcases hx_spec b with ⟨hb,_⟩ | ⟨_,hb1,hb2⟩
 ·omega
 refine ⟨16*(hx a).toNat+(hx b).toNat,by omega,by omega,?_⟩
 have:=or16 (hx a).toNat (by omega) (hx b).toNat (by omega)
 rw [Int.toNat_of_nonneg h,Int.toNat_of_nonneg h2] at this
 rw [Int.mul_comm,this];omega
set_option maxHeartbeats 1000000 in
set_option maxRecDepth 100000 in
theorem escaped_any (l:List UInt8) (w:World) (hl:l.length≤1000000) :
  Calls Tryz.prog 102 #[.string (B l)] w fun e w'=>∃ (d:UInt8) (n:Nat),e=.returned (.tuple #[.int .u8 d.toNat,.int .i64 n])∧escOK l d n∧Below w.heap.size w w':=by
 by_cases h0:l=[]
 ·subst h0
  go_enter Tryz.func102,Tryz.ntmps102
  simp only [B_mk]
  go_wp2_with fail
  go_ret2
  exact ⟨0,0,rfl,esc_nil,Below.refl _ _⟩
 have hlen:0<l.length:=List.length_pos_iff.2 h0
 have hne:(l == [])=false:=by simpa using h0
 have hcr:∃ c r,l=c :: r:=by cases l with | nil=>exact absurd rfl h0 | cons c r=>exact ⟨c,r,rfl⟩
 obtain ⟨c,r,hcr⟩:=hcr
 have hat:at8 l 0=c:=by rw [hcr];rfl
 have Q1:=@esc_qb c r
 have Q2:=esc_n r
 have Q3:=@esc_other c r
 rw [← hcr] at Q1 Q3
 have HCR:=Lib.hid hcr
 clear h0 hcr
 have F0:=Lib.hid Q1
 have F1:=Lib.hid Q2
 have F2:=Lib.hid Q3
 clear Q1 Q2 Q3
 by_cases c34:c=34
 ·have e1:((c.toNat:Int) == 34)=true:=u8_is c34
  have HE:=Lib.hid (F0.out (.inl c34))
  clear c34
  go_enter Tryz.func102,Tryz.ntmps102
  simp only [B_mk]
  go_wp2_with fail
  go_ret2
  exact ⟨c,1,rfl,HE.out,Below.refl _ _⟩
 have e1:((c.toNat:Int) == 34)=false:=u8_not c34
 by_cases c92:c=92
 ·have e2:((c.toNat:Int) == 92)=true:=u8_is c92
  have HE:=Lib.hid (F0.out (.inr c92))
  clear c92 c34
  go_enter Tryz.func102,Tryz.ntmps102
  simp only [B_mk]
  go_wp2_with fail
  go_ret2
  exact ⟨c,1,rfl,HE.out,Below.refl _ _⟩
 have e2:((c.toNat:Int) == 92)=false:=u8_not c92
 by_cases c110:c=110
 ·have e3:((c.toNat:Int) == 110)=true:=u8_is c110
  have HE:=Lib.hid (show escOK l 10 1 by rw [HCR.out,c110];exact F1.out)
  clear c92 c34 c110
  go_enter Tryz.func102,Tryz.ntmps102
  simp only [B_mk]
  go_wp2_with fail
  go_ret2
  exact ⟨10,1,rfl,HE.out,Below.refl _ _⟩
 have e3:((c.toNat:Int) == 110)=false:=u8_not c110
 by_cases c120:c=120
 ·have e4:((c.toNat:Int) == 120)=true:=u8_is c120
  by_cases hs:l.length<3
  ·have HE:=Lib.hid (show escOK l 0 0 by
    have:=HCR.out
    rw [this,c120];exact esc_short (by rw [this] at hs;simp at hs;omega))
   have hs':(l.length:Int)<3:=by omega
   clear c92 c34 c110 c120
   go_enter Tryz.func102,Tryz.ntmps102
   simp only [B_mk]
   go_wp2_with fail
   go_ret2
   exact ⟨0,0,rfl,HE.out,Below.refl _ _⟩
  ·have habt:∃ a b t,r=a :: b :: t:=by
    have:=HCR.out
    rw [this] at hs
    match r,hs with
    |a :: b :: t,_=>exact ⟨a,b,t,rfl⟩
    |[a],hs=>simp at hs
    |[],hs=>simp at hs
   obtain ⟨a,b,t,hr⟩:=habt
   have hs':¬ (l.length:Int)<3:=by omega
   have ha1:at8 l 1=a:=by rw [HCR.out,hr];rfl
   have ha2:at8 l 2=b:=by rw [HCR.out,hr];rfl
   have LL:=HCR.out
   rw [hr,c120] at LL
   have NH:=Lib.hid (fun h=>(show escOK l 0 0 by rw [LL];exact esc_nohex (a:=a) (b:=b) (t:=t) h))
   have HX:∀ k:Nat,0≤hx a→0≤hx b→(k:Int)=16*hx a+hx b→(k=10∨32≤k∧k≤126→escOK l 0 0)∧(¬ (k=10∨32≤k∧k≤126)→escOK l (UInt8.ofNat k) 3):=by
    intro k h1 h2 h3;rw [LL];exact esc_hex h1 h2 h3
   have HH:=Lib.hid HX
   have EV:=Lib.hid (@esc_val a b)
   have SA:=hx_spec a
   have SB:=hx_spec b
   have HSA:hx a = -1∨0≤hx a∧hx a<16:=by rcases SA with h | h;exact .inl h.1;exact .inr ⟨h.1,h.2.1⟩
   have HSB:hx b = -1∨0≤hx b∧hx b<16:=by rcases SB with h | h;exact .inl h.1;exact .inr ⟨h.1,h.2.1⟩
   have SSA:=Lib.hid HSA
   have SSB:=Lib.hid HSB
   clear HX SA SB c92 c34 c110 c120 hs HSA HSB hr LL
   have i1:(1:Int)<(l.length:Int):=by omega
   have i2:(2:Int)<(l.length:Int):=by omega
   go_enter Tryz.func102,Tryz.ntmps102
   simp only [B_mk]
   go_wp2_with fail
   go_quiet ((go_at_call 131;first | exact Calls.quiet_of_same (index_any a _) | exact Calls.quiet_of_same (index_any b _)))
   have hb0:Below w.heap.size w (w.drewN ‹Nat›):=below_drewN (Below.refl _ _) _
   generalize w.drewN ‹Nat›=w2 at *
   generalize hx a=x at *
   generalize hx b=y at *
   rcases SSA.out with h | ⟨h1,h2⟩
   ·subst h
    have HE:=Lib.hid (NH.out (.inl rfl))
    go_wp2_with fail
    go_ret2
    exact ⟨0,0,rfl,HE.out,hb0⟩
   ·rcases SSB.out with h | ⟨h3,h4⟩
    ·subst h
     have HE:=Lib.hid (NH.out (.inr rfl))
     go_wp2_with fail
     go_ret2
     exact ⟨0,0,rfl,HE.out,hb0⟩
    ·obtain ⟨k,hk,hk2,hor⟩:=EV.out h1 h3
     have HK:=Lib.hid (HH.out k h1 h3 hk)
     have hkm:(k:Int) % 256=(k:Int):=by omega
     have hxn:decide (x<0)=false:=by simp;omega
     have hyn:decide (y<0)=false:=by simp;omega
     clear hk
     by_cases hbad:k=10∨32≤k∧k≤126
     ·have HE:=Lib.hid (HK.out.1 hbad)
      rcases hbad with hb | ⟨hb1,hb2⟩
      ·have hq:((k:Int) == 10)=true:=by simp;omega
       clear hb
       go_wp2_with fail
       go_ret2
       exact ⟨0,0,rfl,HE.out,hb0⟩
      ·have hq:((k:Int) == 10)=false:=by rw [beq_eq_false_iff_ne];omega
       have hb1':(32:Int)≤(k:Int):=by omega
       have hb2':(k:Int)≤126:=by omega
       clear hb1 hb2
       go_wp2_with fail
       go_ret2
       exact ⟨0,0,rfl,HE.out,hb0⟩
     ·have HE:=Lib.hid (HK.out.2 hbad)
      have hq:((k:Int) == 10)=false:=by rw [beq_eq_false_iff_ne];omega
      have hk3:((UInt8.ofNat k).toNat:Int)=(k:Int):=by rw [UInt8.toNat_ofNat'];omega
      have HK3:=Lib.hid hk3
      clear hk3
      by_cases hlo:(32:Int)≤(k:Int)
      ·have hlod:decide ((32:Int)≤(k:Int))=true:=by simpa using hlo
       have hhi:(126:Int)<(k:Int):=by omega
       clear hbad
       go_wp2_with fail
       go_ret2
       exact ⟨UInt8.ofNat k,3,by rw [HK3.out];rfl,HE.out,hb0⟩
      ·clear hbad
       go_wp2_with fail
       go_ret2
       exact ⟨UInt8.ofNat k,3,by rw [HK3.out];rfl,HE.out,hb0⟩
 ·have e4:((c.toNat:Int) == 120)=false:=u8_not c120
  have HE:=Lib.hid (F2.out (by rintro (h | h);exact c34 h;exact c92 h) c110 c120)
  clear c92 c34 c110 c120
  go_enter Tryz.func102,Tryz.ntmps102
  simp only [B_mk]
  go_wp2_with fail
  go_ret2
  exact ⟨0,0,rfl,HE.out,Below.refl _ _⟩
end Go.Proofs.YtljekdpgjaahjaaGreatDoor

/- text.escaped. -/
import Derived.Test.YtdgnnahkcklepaaDoorTForm
import Derived.Test.YtdgnnahkcklepaaDoorTxt2
import Derived.Test.YtdgnnahkcklepaaDoorShelf
import Derived.Lib.Bytealg
import Derived.Deep.QuietTactic
import Derived.BigQuiet
namespace Go.Proofs.YtdgnnahkcklepaaDoor
open Go.RowKit Num Txt
set_option linter.unusedVariables false
attribute [local go_sem] B_size B_get B_toList B_mk B_extract B_append

def hx (b : UInt8) : Int := Lib.indexByte hexL b
theorem hx_all : ∀ n : Nat, n < 256 → (hx (UInt8.ofNat n) = -1 ∧ ∀ k : Nat, k < 16 → hexd k ≠ UInt8.ofNat n) ∨ (0 ≤ hx (UInt8.ofNat n) ∧ hx (UInt8.ofNat n) < 16 ∧ hexd (hx (UInt8.ofNat n)).toNat = UInt8.ofNat n) := by decide +kernel
theorem hx_spec (b : UInt8) : (hx b = -1 ∧ ∀ k : Nat, k < 16 → hexd k ≠ b) ∨ (0 ≤ hx b ∧ hx b < 16 ∧ hexd (hx b).toNat = b) := by
  have := hx_all b.toNat b.toNat_lt
  rwa [UInt8.ofNat_toNat] at this
theorem index_any (b : UInt8) (w : World) : Calls Tryd.prog 42 #[.string (B hexL), .int .u8 b.toNat] w fun e w' => e = .returned (.int .i64 (hx b)) ∧ w' = w := by
  refine (Tryd.strings_IndexByte (B hexL) b.toNat w).mono ?_
  rintro e w' ⟨rfl, rfl⟩
  refine ⟨?_, rfl⟩
  have h1 : ((b.toNat : Int)).toNat.toUInt8 = b := by rw [Int.toNat_natCast]; simp
  rw [h1]; rfl
/-- the forms that begin with a backslash -/
theorem form92 {c : UInt8} {x t : Str} (h : 92 :: t = form c ++ x) :
    ((c = 34 ∨ c = 92) ∧ t = c :: x) ∨ (c = 10 ∧ t = 110 :: x) ∨ ((c.toNat < 32 ∨ 126 < c.toNat) ∧ c ≠ 10 ∧ t = 120 :: hexd (c.toNat / 16) :: hexd (c.toNat % 16) :: x) := by
  by_cases h1 : c = 34 ∨ c = 92
  · rw [form_qb h1] at h; simp at h; exact .inl ⟨h1, h⟩
  · by_cases h2 : c = 10
    · rw [form_nl h2] at h; simp at h; exact .inr (.inl ⟨h2, h⟩)
    · by_cases h3 : c.toNat < 32 ∨ 126 < c.toNat
      · rw [form_hex h1 h2 h3] at h; simp at h; exact .inr (.inr ⟨h3, h2, h⟩)
      · rw [form_plain h1 h2 h3] at h; simp at h; exact absurd (.inr h.1.symm) h1
/-- what the reading of an escape answers -/
def escOK (t : Str) (d : UInt8) (n : Nat) : Prop := (n = 0 ∧ ∀ c x, 92 :: t ≠ form c ++ x) ∨ (0 < n ∧ n ≤ 3 ∧ n ≤ t.length ∧ 92 :: t.take n = form d)
theorem esc_nil : escOK [] 0 0 := .inl ⟨rfl, fun c x h => by
  rcases form92 h with ⟨_, h⟩ | ⟨_, h⟩ | ⟨_, _, h⟩ <;> simp at h⟩
theorem esc_qb {c : UInt8} {t : Str} (h : c = 34 ∨ c = 92) : escOK (c :: t) c 1 := .inr ⟨by omega, by omega, by simp, by rw [form_qb h]; rfl⟩
theorem esc_n (t : Str) : escOK (110 :: t) 10 1 := .inr ⟨by omega, by omega, by simp, rfl⟩
theorem esc_other {c : UInt8} {t : Str} (h : ¬ (c = 34 ∨ c = 92)) (h2 : c ≠ 110) (h3 : c ≠ 120) : escOK (c :: t) 0 0 := .inl ⟨rfl, fun d x e => by
  rcases form92 e with ⟨hd, e⟩ | ⟨_, e⟩ | ⟨_, _, e⟩ <;> simp only [List.cons.injEq] at e
  · rw [e.1] at h; exact h hd
  · exact h2 e.1
  · exact h3 e.1⟩
theorem esc_short {t : Str} (h : t.length < 2) : escOK (120 :: t) 0 0 := .inl ⟨rfl, fun d x e => by
  rcases form92 e with ⟨hd, e⟩ | ⟨_, e⟩ | ⟨_, _, e⟩ <;> simp only [List.cons.injEq] at e
  · rw [← e.1] at hd; rcases hd with h | h <;> cases h
  · exact absurd e.1 (by decide)
  · rw [e.2] at h; simp at h; omega⟩
theorem esc_nohex {a b : UInt8} {t : Str} (h : hx a = -1 ∨ hx b = -1) : escOK (120 :: a :: b :: t) 0 0 := .inl ⟨rfl, fun d x e => by
  rcases form92 e with ⟨hd, e⟩ | ⟨_, e⟩ | ⟨_, _, e⟩ <;> simp only [List.cons.injEq] at e
  · rw [← e.1] at hd; rcases hd with h | h <;> cases h
  · exact absurd e.1 (by decide)
  · have hd := d.toNat_lt
    rcases h with h | h
    · rcases hx_spec a with ⟨_, h1⟩ | ⟨h1, _⟩
      · exact h1 (d.toNat / 16) (by omega) e.2.1.symm
      · omega
    · rcases hx_spec b with ⟨_, h1⟩ | ⟨h1, _⟩
      · exact h1 (d.toNat % 16) (by omega) e.2.2.1.symm
      · omega⟩
theorem esc_hex {a b : UInt8} {t : Str} {c : Nat} (h : 0 ≤ hx a) (h2 : 0 ≤ hx b) (hc : (c : Int) = 16 * hx a + hx b) :
    (c = 10 ∨ 32 ≤ c ∧ c ≤ 126 → escOK (120 :: a :: b :: t) 0 0) ∧ (¬ (c = 10 ∨ 32 ≤ c ∧ c ≤ 126) → escOK (120 :: a :: b :: t) (UInt8.ofNat c) 3) := by
  rcases hx_spec a with ⟨ha, _⟩ | ⟨_, ha1, ha2⟩
  · omega
  rcases hx_spec b with ⟨hb, _⟩ | ⟨_, hb1, hb2⟩
  · omega
  have hq : (hx a).toNat = c / 16 := by omega
  have hr : (hx b).toNat = c % 16 := by omega
  have hcl : c < 256 := by omega
  rw [hq] at ha2
  rw [hr] at hb2
  constructor
  · intro hbad
    refine .inl ⟨rfl, fun d x e => ?_⟩
    rcases form92 e with ⟨hd, e⟩ | ⟨_, e⟩ | ⟨h3, h10, e⟩ <;> simp only [List.cons.injEq] at e
    · rw [← e.1] at hd; rcases hd with h | h <;> cases h
    · exact absurd e.1 (by decide)
    · have hd := d.toNat_lt
      have e1 := hexd_inj (by omega) (by omega) (ha2.trans e.2.1)
      have e2 := hexd_inj (by omega) (by omega) (hb2.trans e.2.2.1)
      have : ¬ d.toNat = 10 := fun e => h10 (UInt8.toNat_inj.1 e)
      omega
  · intro hgood
    refine .inr ⟨by omega, by omega, by simp, ?_⟩
    have ht : (UInt8.ofNat c).toNat = c := by rw [UInt8.toNat_ofNat']; omega
    have n1 : ¬ (UInt8.ofNat c = 34 ∨ UInt8.ofNat c = 92) := by
      rintro (e | e)
      · have := congrArg UInt8.toNat e; rw [ht] at this; simp at this; omega
      · have := congrArg UInt8.toNat e; rw [ht] at this; simp at this; omega
    have n2 : ¬ UInt8.ofNat c = 10 := by
      intro e
      have := congrArg UInt8.toNat e; rw [ht] at this; simp at this; omega
    rw [form_hex n1 n2 (by rw [ht]; omega), ht, ha2, hb2]; rfl
theorem or16 : ∀ h : Nat, h < 16 → ∀ l : Nat, l < 16 → bits BinOp.or IntKind.i64 (16 * (h : Int)) (l : Int) = 16 * (h : Int) + (l : Int) := by decide +kernel

theorem u8_is {c k : UInt8} (h : c = k) : ((c.toNat : Int) == (k.toNat : Int)) = true := by rw [h]; simp
theorem u8_not {c k : UInt8} (h : ¬ c = k) : ((c.toNat : Int) == (k.toNat : Int)) = false := by rw [u8_eq]; simp [h]
theorem esc_val {a b : UInt8} (h : 0 ≤ hx a) (h2 : 0 ≤ hx b) : ∃ c : Nat, (c : Int) = 16 * hx a + hx b ∧ c < 256 ∧ bits BinOp.or IntKind.i64 (hx a * 16) (hx b) = (c : Int) := by
  rcases hx_spec a with ⟨ha, _⟩ | ⟨_, ha1, ha2⟩
  · omega
  rcases hx_spec b with ⟨hb, _⟩ | ⟨_, hb1, hb2⟩
  · omega
  refine ⟨16 * (hx a).toNat + (hx b).toNat, by omega, by omega, ?_⟩
  have := or16 (hx a).toNat (by omega) (hx b).toNat (by omega)
  rw [Int.toNat_of_nonneg h, Int.toNat_of_nonneg h2] at this
  rw [Int.mul_comm, this]; omega

set_option maxHeartbeats 1000000 in
set_option maxRecDepth 100000 in
theorem escaped_any (l : List UInt8) (w : World) (hl : l.length ≤ 1000000) :
    Calls Tryd.prog 32 #[.string (B l)] w fun e w' => ∃ (d : UInt8) (n : Nat), e = .returned (.tuple #[.int .u8 d.toNat, .int .i64 n]) ∧ escOK l d n ∧ Below w.heap.size w w' := by
  by_cases h0 : l = []
  · subst h0
    go_enter Tryd.func32, Tryd.ntmps32
    simp only [B_mk]
    go_wp2_with fail
    go_ret2
    exact ⟨0, 0, rfl, esc_nil, Below.refl _ _⟩
  have hlen : 0 < l.length := List.length_pos_iff.2 h0
  have hne : (l == []) = false := by simpa using h0
  have hcr : ∃ c r, l = c :: r := by cases l with | nil => exact absurd rfl h0 | cons c r => exact ⟨c, r, rfl⟩
  obtain ⟨c, r, hcr⟩ := hcr
  have hat : at8 l 0 = c := by rw [hcr]; rfl
  have Q1 := @esc_qb c r
  have Q2 := esc_n r
  have Q3 := @esc_other c r
  rw [← hcr] at Q1 Q3
  have HCR := Lib.hid hcr
  clear h0 hcr
  have F0 := Lib.hid Q1
  have F1 := Lib.hid Q2
  have F2 := Lib.hid Q3
  clear Q1 Q2 Q3
  by_cases c34 : c = 34
  · have e1 : ((c.toNat : Int) == 34) = true := u8_is c34
    have HE := Lib.hid (F0.out (.inl c34))
    clear c34
    go_enter Tryd.func32, Tryd.ntmps32
    simp only [B_mk]
    go_wp2_with fail
    go_ret2
    exact ⟨c, 1, rfl, HE.out, Below.refl _ _⟩
  have e1 : ((c.toNat : Int) == 34) = false := u8_not c34
  by_cases c92 : c = 92
  · have e2 : ((c.toNat : Int) == 92) = true := u8_is c92
    have HE := Lib.hid (F0.out (.inr c92))
    clear c92 c34
    go_enter Tryd.func32, Tryd.ntmps32
    simp only [B_mk]
    go_wp2_with fail
    go_ret2
    exact ⟨c, 1, rfl, HE.out, Below.refl _ _⟩
  have e2 : ((c.toNat : Int) == 92) = false := u8_not c92
  by_cases c110 : c = 110
  · have e3 : ((c.toNat : Int) == 110) = true := u8_is c110
    have HE := Lib.hid (show escOK l 10 1 by rw [HCR.out, c110]; exact F1.out)
    clear c92 c34 c110
    go_enter Tryd.func32, Tryd.ntmps32
    simp only [B_mk]
    go_wp2_with fail
    go_ret2
    exact ⟨10, 1, rfl, HE.out, Below.refl _ _⟩
  have e3 : ((c.toNat : Int) == 110) = false := u8_not c110
  by_cases c120 : c = 120
  · have e4 : ((c.toNat : Int) == 120) = true := u8_is c120
    by_cases hs : l.length < 3
    · have HE := Lib.hid (show escOK l 0 0 by
        have := HCR.out
        rw [this, c120]; exact esc_short (by rw [this] at hs; simp at hs; omega))
      have hs' : (l.length : Int) < 3 := by omega
      clear c92 c34 c110 c120
      go_enter Tryd.func32, Tryd.ntmps32
      simp only [B_mk]
      go_wp2_with fail
      go_ret2
      exact ⟨0, 0, rfl, HE.out, Below.refl _ _⟩
    · have habt : ∃ a b t, r = a :: b :: t := by
        have := HCR.out
        rw [this] at hs
        match r, hs with
        | a :: b :: t, _ => exact ⟨a, b, t, rfl⟩
        | [a], hs => simp at hs
        | [], hs => simp at hs
      obtain ⟨a, b, t, hr⟩ := habt
      have hs' : ¬ (l.length : Int) < 3 := by omega
      have ha1 : at8 l 1 = a := by rw [HCR.out, hr]; rfl
      have ha2 : at8 l 2 = b := by rw [HCR.out, hr]; rfl
      have LL := HCR.out
      rw [hr, c120] at LL
      have NH := Lib.hid (fun h => (show escOK l 0 0 by rw [LL]; exact esc_nohex (a := a) (b := b) (t := t) h))
      have HX : ∀ k : Nat, 0 ≤ hx a → 0 ≤ hx b → (k : Int) = 16 * hx a + hx b → (k = 10 ∨ 32 ≤ k ∧ k ≤ 126 → escOK l 0 0) ∧ (¬ (k = 10 ∨ 32 ≤ k ∧ k ≤ 126) → escOK l (UInt8.ofNat k) 3) := by
        intro k h1 h2 h3; rw [LL]; exact esc_hex h1 h2 h3
      have HH := Lib.hid HX
      have EV := Lib.hid (@esc_val a b)
      have SA := hx_spec a
      have SB := hx_spec b
      have HSA : hx a = -1 ∨ 0 ≤ hx a ∧ hx a < 16 := by rcases SA with h | h; exact .inl h.1; exact .inr ⟨h.1, h.2.1⟩
      have HSB : hx b = -1 ∨ 0 ≤ hx b ∧ hx b < 16 := by rcases SB with h | h; exact .inl h.1; exact .inr ⟨h.1, h.2.1⟩
      have SSA := Lib.hid HSA
      have SSB := Lib.hid HSB
      clear HX SA SB c92 c34 c110 c120 hs HSA HSB hr LL
      have i1 : (1 : Int) < (l.length : Int) := by omega
      have i2 : (2 : Int) < (l.length : Int) := by omega
      go_enter Tryd.func32, Tryd.ntmps32
      simp only [B_mk]
      go_wp2_with fail
      go_quiet ((go_at_call 42; first | exact Calls.quiet_of_same (index_any a _) | exact Calls.quiet_of_same (index_any b _)))
      have hb0 : Below w.heap.size w (w.drewN ‹Nat›) := below_drewN (Below.refl _ _) _
      generalize w.drewN ‹Nat› = w2 at *
      generalize hx a = x at *
      generalize hx b = y at *
      rcases SSA.out with h | ⟨h1, h2⟩
      · subst h
        have HE := Lib.hid (NH.out (.inl rfl))
        go_wp2_with fail
        go_ret2
        exact ⟨0, 0, rfl, HE.out, hb0⟩
      · rcases SSB.out with h | ⟨h3, h4⟩
        · subst h
          have HE := Lib.hid (NH.out (.inr rfl))
          go_wp2_with fail
          go_ret2
          exact ⟨0, 0, rfl, HE.out, hb0⟩
        · obtain ⟨k, hk, hk2, hor⟩ := EV.out h1 h3
          have HK := Lib.hid (HH.out k h1 h3 hk)
          have hkm : (k : Int) % 256 = (k : Int) := by omega
          have hxn : decide (x < 0) = false := by simp; omega
          have hyn : decide (y < 0) = false := by simp; omega
          clear hk
          by_cases hbad : k = 10 ∨ 32 ≤ k ∧ k ≤ 126
          · have HE := Lib.hid (HK.out.1 hbad)
            rcases hbad with hb | ⟨hb1, hb2⟩
            · have hq : ((k : Int) == 10) = true := by simp; omega
              clear hb
              go_wp2_with fail
              go_ret2
              exact ⟨0, 0, rfl, HE.out, hb0⟩
            · have hq : ((k : Int) == 10) = false := by rw [beq_eq_false_iff_ne]; omega
              have hb1' : (32 : Int) ≤ (k : Int) := by omega
              have hb2' : (k : Int) ≤ 126 := by omega
              clear hb1 hb2
              go_wp2_with fail
              go_ret2
              exact ⟨0, 0, rfl, HE.out, hb0⟩
          · have HE := Lib.hid (HK.out.2 hbad)
            have hq : ((k : Int) == 10) = false := by rw [beq_eq_false_iff_ne]; omega
            have hk3 : ((UInt8.ofNat k).toNat : Int) = (k : Int) := by rw [UInt8.toNat_ofNat']; omega
            have HK3 := Lib.hid hk3
            clear hk3
            by_cases hlo : (32 : Int) ≤ (k : Int)
            · have hlod : decide ((32 : Int) ≤ (k : Int)) = true := by simpa using hlo
              have hhi : (126 : Int) < (k : Int) := by omega
              clear hbad
              go_wp2_with fail
              go_ret2
              exact ⟨UInt8.ofNat k, 3, by rw [HK3.out]; rfl, HE.out, hb0⟩
            · clear hbad
              go_wp2_with fail
              go_ret2
              exact ⟨UInt8.ofNat k, 3, by rw [HK3.out]; rfl, HE.out, hb0⟩
  · have e4 : ((c.toNat : Int) == 120) = false := u8_not c120
    have HE := Lib.hid (F2.out (by rintro (h | h); exact c34 h; exact c92 h) c110 c120)
    clear c92 c34 c110 c120
    go_enter Tryd.func32, Tryd.ntmps32
    simp only [B_mk]
    go_wp2_with fail
    go_ret2
    exact ⟨0, 0, rfl, HE.out, Below.refl _ _⟩
end Go.Proofs.YtdgnnahkcklepaaDoor

/- The order of texts: plain. -/
import Derived.Test.YtkggdkkfdbbglaaDoorCmpI
namespace Go.Proofs.YtkggdkkfdbbglaaDoor
open Go.RowKit Num
attribute [local go_sem] B_size B_get B_toList B_mk

theorem bytesLess_val : ∀ (a b : List UInt8), a.length = b.length → a.all isDig = true → b.all isDig = true → Op.bytesLess a b = decide (val a < val b) := by
  intro a
  induction a with
  | nil =>
    intro b h _ _
    have : b = [] := List.eq_nil_of_length_eq_zero h.symm
    subst this
    rw [Op.bytesLess]; simp
  | cons c s ih =>
    intro b h h1 h2
    cases b with
    | nil => simp at h
    | cons d t =>
      simp only [List.all_cons, Bool.and_eq_true] at h1 h2
      have hl : s.length = t.length := by simpa using h
      rw [Op.bytesLess, ih t hl h1.2 h2.2, val_cons, val_cons, hl]
      have b1 := val_lt s h1.2
      have b2 := val_lt t h2.2
      rw [hl] at b1
      have hc : c = d ↔ dv c = dv d := ⟨fun e => by rw [e], fun e => by rw [← dch_dv h1.1, ← dch_dv h2.1, e]⟩
      have hlt : c < d ↔ dv c < dv d := by
        rw [UInt8.lt_iff_toNat_lt]
        have := h1.1; have := h2.1
        unfold isDig at *; simp at *; unfold dv; omega
      rw [Bool.eq_iff_iff]
      simp only [Bool.or_eq_true, decide_eq_true_eq, Bool.and_eq_true, beq_iff_eq, hc, hlt]
      rcases Nat.lt_trichotomy (dv c) (dv d) with h3 | h3 | h3
      · have := Nat.mul_le_mul_right (10 ^ t.length) (show dv c + 1 ≤ dv d by omega)
        rw [Nat.add_mul] at this
        constructor
        · intro _; omega
        · intro _; left; omega
      · rw [h3]
        constructor
        · rintro (h | ⟨_, h⟩) <;> omega
        · intro h; right; exact ⟨rfl, by omega⟩
      · have := Nat.mul_le_mul_right (10 ^ t.length) (show dv d + 1 ≤ dv c by omega)
        rw [Nat.add_mul] at this
        constructor
        · rintro (h | ⟨h, _⟩) <;> omega
        · intro _; omega
theorem val_lt_of_len {a b : List UInt8} (ha : right a = true) (hb : right b = true) (h : a.length < b.length) : val a < val b := by
  have h1 := val_lt_len ha
  have h2 : ¬ val b < 10 ^ a.length := by
    intro h3
    have := (length_dec_le (n := val b) (k := a.length) (List.length_pos_iff.2 (right_ne ha))).2 h3
    rw [dec_val hb] at this
    omega
  omega
theorem val_inj {a b : List UInt8} (ha : right a = true) (hb : right b = true) (h : val a = val b) : a = b := by
  rw [← dec_val ha, ← dec_val hb, h]
/-- the order of two texts: of two numbers, or 0 -/
def cmpT (a b : List UInt8) : Int := if right a = true ∧ right b = true then cmpI (val a) (val b) else 0
theorem cmpT_right {a b : List UInt8} (ha : right a = true) (hb : right b = true) : cmpT a b = cmpI (val a) (val b) := by rw [cmpT, if_pos ⟨ha, hb⟩]
theorem cmpI_cast (a b : Nat) : cmpI (a : Int) (b : Int) = if a < b then -1 else if b < a then 1 else 0 := by
  unfold cmpI; simp only [Int.ofNat_lt]
theorem cmpI_lt {a b : Int} (h : a < b) : cmpI a b = -1 := by rw [cmpI, if_pos h]
theorem cmpI_gt {a b : Int} (h : b < a) : cmpI a b = 1 := by rw [cmpI, if_neg (by omega), if_pos h]
theorem cmpI_eq {a b : Int} (h : a = b) : cmpI a b = 0 := by rw [cmpI, if_neg (by omega), if_neg (by omega)]
theorem cmp_law {a b : List UInt8} (ha : right a = true) (hb : right b = true) : or2 (cmpI a.length b.length) (cmpS a b) = cmpT a b := by
  rw [cmpT_right ha hb, cmpI_cast, cmpI_cast]
  rcases Nat.lt_trichotomy a.length b.length with h | h | h
  · have := val_lt_of_len ha hb h
    rw [if_pos h, if_pos this]; rfl
  · rw [if_neg (by omega), if_neg (by omega)]
    show cmpS a b = _
    rw [cmpS, bytesLess_val a b h (right_all ha) (right_all hb)]
    by_cases h1 : val a < val b
    · simp [h1]
    · by_cases h2 : val b < val a
      · have : a ≠ b := by rintro rfl; omega
        simp [h1, h2, this]
      · have : a = b := val_inj ha hb (by omega)
        simp [this]
  · have := val_lt_of_len hb ha h
    rw [if_neg (by omega), if_pos h, if_neg (by omega), if_pos this]; rfl
theorem cmpT_swap (a b : List UInt8) : cmpT b a = - cmpT a b := by
  unfold cmpT
  by_cases h : right a = true ∧ right b = true
  · rw [if_pos h, if_pos h.symm, cmpI_cast, cmpI_cast]
    rcases Nat.lt_trichotomy (val a) (val b) with h | h | h
    · rw [if_neg (by omega), if_pos h, if_pos h]; rfl
    · rw [if_neg (by omega), if_neg (by omega), if_neg (by omega), if_neg (by omega)]; rfl
    · rw [if_pos h, if_neg (by omega), if_pos h]
  · rw [if_neg h, if_neg (fun h' => h h'.symm)]; rfl

end Go.Proofs.YtkggdkkfdbbglaaDoor

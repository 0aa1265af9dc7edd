/- Numbers as texts: what is read, plain. -/
import Derived.Test.YtdgnnahkcklepaaDoorWNum
import Derived.Test.YtdgnnahkcklepaaDoorTabs
import Derived.Shelf.Strings.Prefix
import Derived.Lib.AtoiAll
namespace Go.Proofs.YtdgnnahkcklepaaDoor
open Num
namespace Num
def fits (z : Int) : Prop := -9223372036854775808 ≤ z ∧ z ≤ 9223372036854775807
instance (z : Int) : Decidable (fits z) := by unfold fits; infer_instance
def numE (s : Str) : Int := if rightI s = true then (if fits (valI s) then 0 else 4) else 3
def numV (s : Str) : Int := if numE s = 0 then valI s else 0
theorem num_bad {s : Str} (h : rightI s = false) : numE s = 3 ∧ numV s = 0 := by
  have : numE s = 3 := by unfold numE; rw [h]; rfl
  exact ⟨this, by unfold numV; rw [this]; rfl⟩
theorem num_big {s : Str} (h : rightI s = true) (h2 : ¬ fits (valI s)) : numE s = 4 ∧ numV s = 0 := by
  have : numE s = 4 := by unfold numE; rw [if_pos h, if_neg h2]
  exact ⟨this, by unfold numV; rw [this]; rfl⟩
theorem num_good {s : Str} (h : rightI s = true) (h2 : fits (valI s)) : numE s = 0 ∧ numV s = valI s := by
  have : numE s = 0 := by unfold numE; rw [if_pos h, if_pos h2]
  exact ⟨this, by unfold numV; rw [this]; rfl⟩
theorem num_decI {z : Int} (h : fits z) : numE (decI z) = 0 ∧ numV (decI z) = z := by
  have := num_good (rightI_decI z) (by rw [valI_decI]; exact h)
  rw [valI_decI] at this; exact this
theorem num_zero {s : Str} (h : numE s = 0) : decI (numV s) = s ∧ fits (numV s) := by
  unfold numV; rw [if_pos h]
  unfold numE at h
  by_cases h1 : rightI s = true
  · rw [if_pos h1] at h
    by_cases h2 : fits (valI s)
    · exact ⟨decI_valI h1, h2⟩
    · rw [if_neg h2] at h; cases h
  · rw [if_neg h1] at h; cases h
/-- when a text is that of an integer -/
theorem rightI_no_empty {s : Str} (h : mag s = []) : rightI s = false := by unfold rightI; rw [h]; rfl
theorem rightI_no_zero {s : Str} (h : (mag s).head? = some 48) (h2 : s ≠ [48]) : rightI s = false := by
  unfold rightI right
  rw [h]
  by_cases hn : neg? s = true
  · rw [hn]
    by_cases h3 : mag s = [48]
    · simp [h3]
    · simp [h3]
  · have : mag s = s := by unfold mag; rw [if_neg hn]
    rw [this] at h ⊢
    simp [h2]
theorem rightI_no_digit {s : Str} (h : (mag s).all isDig = false) : rightI s = false := by unfold rightI right; rw [h]; simp
theorem rightI_yes {s : Str} (h : mag s ≠ []) (h1 : (mag s).head? ≠ some 48 ∨ s = [48]) (h2 : (mag s).all isDig = true) : rightI s = true := by
  unfold rightI right
  rw [h2]
  rcases h1 with h1 | h1
  · have h3 : mag s ≠ [48] := by intro e; rw [e] at h1; exact h1 rfl
    simp [h, h1, h3]
  · subst h1; decide
theorem rightI_mag {s : Str} (h : rightI s = true) : right (mag s) = true := by unfold rightI at h; simp at h; exact h.1
theorem right_parts {s : Str} (h : right s = true) : s.all isDig = true ∧ s ≠ [] := by
  unfold right at h; simp only [Bool.and_eq_true, Bool.not_eq_true', List.isEmpty_eq_false_iff] at h; exact ⟨h.2, h.1.1⟩
theorem trim_mag (l : Str) : Lib.trimPrefix l [45] = mag l := by
  unfold mag neg? Lib.trimPrefix Lib.hasPrefix
  cases l with
  | nil => rfl
  | cons c t =>
    by_cases h : c = 45
    · subst h; simp
    · have : ¬ (45 : UInt8) = c := fun e => h e.symm
      simp [h, this]
theorem parseUint10_eq : ∀ (l : Str) (acc : Nat), l.all isDig = true → acc < 18446744073709551616 →
    Lib.parseUint10 acc l = if acc * 10 ^ l.length + val l < 18446744073709551616 then .ok (acc * 10 ^ l.length + val l) else .range := by
  intro l
  induction l with
  | nil => intro acc _ h; simp [Lib.parseUint10, val, h]
  | cons c t ih =>
    intro acc hd ha
    simp only [List.all_cons, Bool.and_eq_true] at hd
    have hc := hd.1
    unfold isDig at hc
    simp at hc
    have hv : val (c :: t) = dv c * 10 ^ t.length + val t := val_cons c t
    have hp : 0 < 10 ^ t.length := Nat.pow_pos (by omega)
    have key : acc * 10 ^ (c :: t).length + val (c :: t) = (acc * 10 + dv c) * 10 ^ t.length + val t := by
      rw [hv, List.length_cons, Nat.pow_succ, Nat.add_mul, Nat.mul_comm (10 ^ t.length) 10, Nat.mul_assoc]; omega
    have hge : (acc * 10 + dv c) ≤ (acc * 10 + dv c) * 10 ^ t.length := Nat.le_mul_of_pos_right _ hp
    rw [key]
    unfold Lib.parseUint10
    rw [if_pos hc]
    have hdv : dv c = c.toNat - 48 := rfl
    by_cases h1 : 1844674407370955162 ≤ acc
    · rw [if_pos h1, if_neg (by omega)]
    · rw [if_neg h1]
      by_cases h2 : 18446744073709551616 ≤ acc * 10 + (c.toNat - 48)
      · rw [if_pos h2, if_neg (by omega)]
      · rw [if_neg h2, ih _ hd.2 (by omega), ← hdv]
theorem parseMag_eq {l : Str} (h : l.all isDig = true) (h0 : l ≠ []) : Lib.parseMag l = if val l < 18446744073709551616 then .ok (val l) else .range := by
  unfold Lib.parseMag
  rw [if_neg h0, parseUint10_eq l 0 h (by omega)]
  simp
theorem atoiAll_eq {s : Str} (h : rightI s = true) : Lib.atoiAll s = if fits (valI s) then .ok (valI s) else .range := by
  obtain ⟨hd, hne⟩ := right_parts (rightI_mag h)
  have hp := parseMag_eq hd hne
  cases s with
  | nil => exact absurd rfl hne
  | cons c t =>
    unfold Lib.atoiAll
    by_cases hc : c = 45
    · subst hc
      have hm : mag (45 :: t) = t := rfl
      have hv : valI (45 :: t) = -(val t : Int) := rfl
      rw [hm] at hp
      simp only [show (45 : UInt8).toNat = 45 from rfl, or_true, if_true, hp, hv, fits]
      by_cases h1 : val t < 18446744073709551616
      · rw [if_pos h1]
        simp only [not_true, false_and, if_false, true_and]
        by_cases h2 : 9223372036854775808 < val t
        · rw [if_pos h2, if_neg (by omega)]
        · rw [if_neg h2, if_pos (by omega)]
      · rw [if_neg h1]
        simp only
        rw [if_neg (by omega)]
    · have hn : neg? (c :: t) = false := by simp [neg?, hc]
      have hm : mag (c :: t) = c :: t := by unfold mag; rw [hn]; rfl
      have hv : valI (c :: t) = (val (c :: t) : Int) := by unfold valI; rw [hn, hm]; rfl
      rw [hm] at hp hd
      have hcd : isDig c = true := by simp at hd; exact hd.1
      unfold isDig at hcd
      simp at hcd
      have h43 : ¬ (c.toNat = 43 ∨ c.toNat = 45) := by omega
      have h45 : ¬ c.toNat = 45 := by omega
      simp only [if_neg h43, hp, hv, fits]
      generalize val (c :: t) = x at *
      by_cases h1 : x < 18446744073709551616
      · rw [if_pos h1]
        simp only [h45, not_false_iff, true_and, false_and, if_false]
        by_cases h2 : 9223372036854775808 ≤ x
        · rw [if_pos h2, if_neg (by omega)]
        · rw [if_neg h2, if_pos (by omega)]
      · rw [if_neg h1]
        simp only
        rw [if_neg (by omega)]
end Num
end Go.Proofs.YtdgnnahkcklepaaDoor

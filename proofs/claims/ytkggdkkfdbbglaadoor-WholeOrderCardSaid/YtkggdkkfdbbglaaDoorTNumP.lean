/- Numbers as texts: what is read, plain. -/
import Derived.Test.YtkggdkkfdbbglaaDoorWNumB
import Derived.Test.YtkggdkkfdbbglaaDoorTabs
import Derived.Shelf.Strings.Prefix
import Derived.Lib.AtoiAll
namespace Go.Proofs.YtkggdkkfdbbglaaDoor
open Num
namespace Num
theorem trim_mag (l : Str) : Lib.trimPrefix l [45] = mag l := by
  unfold mag neg? Lib.trimPrefix Lib.hasPrefix
  cases l with
  | nil => rfl
  | cons c t =>
    by_cases h : c = 45
    · subst h; simp
    · have : ¬ (45 : UInt8) = c := fun e => h e.symm
      simp [h, this]
theorem parseUint10_eq : ∀ (l : Str) (acc : Nat), l.all isDig = true → acc < 18446744073709551616 →
    Lib.parseUint10 acc l = if acc * 10 ^ l.length + val l < 18446744073709551616 then .ok (acc * 10 ^ l.length + val l) else .range := by
  intro l
  induction l with
  | nil => intro acc _ h; simp [Lib.parseUint10, val, h]
  | cons c t ih =>
    intro acc hd ha
    simp only [List.all_cons, Bool.and_eq_true] at hd
    have hc := hd.1
    unfold isDig at hc
    simp at hc
    have hv : val (c :: t) = dv c * 10 ^ t.length + val t := val_cons c t
    have hp : 0 < 10 ^ t.length := Nat.pow_pos (by omega)
    have key : acc * 10 ^ (c :: t).length + val (c :: t) = (acc * 10 + dv c) * 10 ^ t.length + val t := by
      rw [hv, List.length_cons, Nat.pow_succ, Nat.add_mul, Nat.mul_comm (10 ^ t.length) 10, Nat.mul_assoc]; omega
    have hge : (acc * 10 + dv c) ≤ (acc * 10 + dv c) * 10 ^ t.length := Nat.le_mul_of_pos_right _ hp
    rw [key]
    unfold Lib.parseUint10
    rw [if_pos hc]
    have hdv : dv c = c.toNat - 48 := rfl
    by_cases h1 : 1844674407370955162 ≤ acc
    · rw [if_pos h1, if_neg (by omega)]
    · rw [if_neg h1]
      by_cases h2 : 18446744073709551616 ≤ acc * 10 + (c.toNat - 48)
      · rw [if_pos h2, if_neg (by omega)]
      · rw [if_neg h2, ih _ hd.2 (by omega), ← hdv]
theorem parseMag_eq {l : Str} (h : l.all isDig = true) (h0 : l ≠ []) : Lib.parseMag l = if val l < 18446744073709551616 then .ok (val l) else .range := by
  unfold Lib.parseMag
  rw [if_neg h0, parseUint10_eq l 0 h (by omega)]
  simp
theorem atoiAll_eq {s : Str} (h : rightI s = true) : Lib.atoiAll s = if fits (valI s) then .ok (valI s) else .range := by
  obtain ⟨hd, hne⟩ := right_parts (rightI_mag h)
  have hp := parseMag_eq hd hne
  cases s with
  | nil => exact absurd rfl hne
  | cons c t =>
    unfold Lib.atoiAll
    by_cases hc : c = 45
    · subst hc
      have hm : mag (45 :: t) = t := rfl
      have hv : valI (45 :: t) = -(val t : Int) := rfl
      rw [hm] at hp
      simp only [show (45 : UInt8).toNat = 45 from rfl, or_true, if_true, hp, hv, fits]
      by_cases h1 : val t < 18446744073709551616
      · rw [if_pos h1]
        simp only [not_true, false_and, if_false, true_and]
        by_cases h2 : 9223372036854775808 < val t
        · rw [if_pos h2, if_neg (by omega)]
        · rw [if_neg h2, if_pos (by omega)]
      · rw [if_neg h1]
        simp only
        rw [if_neg (by omega)]
    · have hn : neg? (c :: t) = false := by simp [neg?, hc]
      have hm : mag (c :: t) = c :: t := by unfold mag; rw [hn]; rfl
      have hv : valI (c :: t) = (val (c :: t) : Int) := by unfold valI; rw [hn, hm]; rfl
      rw [hm] at hp hd
      have hcd : isDig c = true := by simp at hd; exact hd.1
      unfold isDig at hcd
      simp at hcd
      have h43 : ¬ (c.toNat = 43 ∨ c.toNat = 45) := by omega
      have h45 : ¬ c.toNat = 45 := by omega
      simp only [if_neg h43, hp, hv, fits]
      generalize val (c :: t) = x at *
      by_cases h1 : x < 18446744073709551616
      · rw [if_pos h1]
        simp only [h45, not_false_iff, true_and, false_and, if_false]
        by_cases h2 : 9223372036854775808 ≤ x
        · rw [if_pos h2, if_neg (by omega)]
        · rw [if_neg h2, if_pos (by omega)]
      · rw [if_neg h1]
        simp only
        rw [if_neg (by omega)]
end Num
end Go.Proofs.YtkggdkkfdbbglaaDoor

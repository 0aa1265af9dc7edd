/- Rational numbers by fractions that need not be reduced: plain. -/
import Derived.Test.YtmppmdmekomjbaaGreatDoorRatO
namespace Go.Proofs.YtmppmdmekomjbaaGreatDoor
namespace Num
set_option linter.unusedVariables false

/-- what lowS p q reads as -/
theorem low_read (p : Int) {q : Nat} (hq : 0 < q) : ∃ g : Nat, 0 < g ∧ p = qn (lowS p q) * g ∧ q = qd (lowS p q) * g ∧ 0 < qd (lowS p q) ∧ Nat.gcd (qn (lowS p q)).natAbs (qd (lowS p q)) = 1 ∧ lowS p q = ratS (qn (lowS p q)) (qd (lowS p q)) ∧
    (qn (lowS p q)).natAbs ≤ p.natAbs ∧ qd (lowS p q) ≤ q := by
  obtain ⟨a, b, g, hb, hg, hc, e1, e2, e3, h4, h5⟩ := low_parts p hq
  rw [e3, qn_ratS, qd_ratS]
  exact ⟨g, hg, e1, e2, hb, hc, rfl, h4, h5⟩
theorem dl_nat (q : Nat) : dl (q : Int) = (dec q).length := by unfold dl; rw [Int.natAbs_natCast]
theorem right_low {p : Int} {q : Nat} (hq : 0 < q) (h1 : dl p ≤ 4096) (h2 : dl (q : Int) ≤ 4096) : rightQ (lowS p q) = true := by
  obtain ⟨g, hg, e1, e2, h3, h4, h5, h6, h7⟩ := low_read p hq
  rw [h5]
  refine rightQ_ratS h3 h4 (Nat.le_trans (dl_mono h6) h1) ?_
  rw [← dl_nat]
  exact Nat.le_trans (dl_mono (by rw [Int.natAbs_natCast, Int.natAbs_natCast]; exact h7)) h2
section
variable {p p' : Int} {q q' : Nat} (hq : 0 < q) (hq' : 0 < q')
include hq hq'
theorem add_low : lowS (qn (lowS p q) * qd (lowS p' q') + qn (lowS p' q') * qd (lowS p q)) (qd (lowS p q) * qd (lowS p' q')) = lowS (p * q' + p' * q) (q * q') := by
  obtain ⟨g, hg, e1, e2, h3, _⟩ := low_read p hq
  obtain ⟨g', hg', e1', e2', h3', _⟩ := low_read p' hq'
  generalize qn (lowS p q) = a at *
  generalize qd (lowS p q) = b at *
  generalize qn (lowS p' q') = a' at *
  generalize qd (lowS p' q') = b' at *
  refine lowS_eq (Nat.mul_pos h3 h3') (Nat.mul_pos hq hq') ?_
  subst e1 e1' e2 e2'
  simp only [Int.natCast_mul]
  grind
theorem mul_low : lowS (qn (lowS p q) * qn (lowS p' q')) (qd (lowS p q) * qd (lowS p' q')) = lowS (p * p') (q * q') := by
  obtain ⟨g, hg, e1, e2, h3, _⟩ := low_read p hq
  obtain ⟨g', hg', e1', e2', h3', _⟩ := low_read p' hq'
  generalize qn (lowS p q) = a at *
  generalize qd (lowS p q) = b at *
  generalize qn (lowS p' q') = a' at *
  generalize qd (lowS p' q') = b' at *
  refine lowS_eq (Nat.mul_pos h3 h3') (Nat.mul_pos hq hq') ?_
  subst e1 e1' e2 e2'
  simp only [Int.natCast_mul]
  grind
end
theorem quoS_pos {x : Int} {q : Nat} (hq : 0 < q) : quoS x (q : Int) = lowS x q := by
  unfold quoS; rw [if_neg (by omega), Int.natAbs_natCast]
theorem errQ_zero {a b : Str} : errQ a b = 0 ↔ rightQ a = true ∧ rightQ b = true := by
  unfold errQ
  by_cases h : rightQ a = true ∧ rightQ b = true
  · rw [if_pos h]; simp [h]
  · rw [if_neg h]; simp; intro h1; cases h2 : rightQ b with
    | false => rfl
    | true => exact absurd ⟨h1, h2⟩ h
end Num
end Go.Proofs.YtmppmdmekomjbaaGreatDoor

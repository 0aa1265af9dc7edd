/- The operations on fractions that need not be reduced: plain. -/
import Derived.Test.YtmppmdmekomjbaaGreatDoorRatL
namespace Go.Proofs.YtmppmdmekomjbaaGreatDoor
namespace Num
set_option linter.unusedVariables false

theorem quoS_neg {x : Int} {y : Int} (hy : y ≠ 0) : ∃ p : Int, ∃ q : Nat, 0 < q ∧ quoS x y = lowS p q ∧ p * y = x * q ∧ dl p = dl x ∧ dl (q : Int) = dl y := by
  unfold quoS
  by_cases h : y < 0
  · rw [if_pos h]
    refine ⟨-x, y.natAbs, by omega, rfl, ?_, dl_neg x, ?_⟩
    · rw [show ((y.natAbs : Nat) : Int) = -y by omega]; grind
    · unfold dl; rw [Int.natAbs_natCast]
  · rw [if_neg h]
    refine ⟨x, y.natAbs, by omega, rfl, ?_, rfl, ?_⟩
    · rw [show ((y.natAbs : Nat) : Int) = y by omega]
    · unfold dl; rw [Int.natAbs_natCast]
/-- a fraction of at most k digits above and below -/
def Fr (k : Nat) (p : Int) (q : Nat) : Prop := 0 < q ∧ dl p ≤ k ∧ dl (q : Int) ≤ k
theorem Fr.low {k : Nat} {p : Int} {q : Nat} (h : Fr k p q) : dl (qn (lowS p q)) ≤ k ∧ dl ((qd (lowS p q) : Nat) : Int) ≤ k := by
  obtain ⟨g, hg, e1, e2, h3, h4, h5, h6, h7⟩ := low_read p h.1
  exact ⟨Nat.le_trans (dl_mono h6) h.2.1, Nat.le_trans (dl_mono (by rw [Int.natAbs_natCast, Int.natAbs_natCast]; exact h7)) h.2.2⟩
theorem Fr.right {k : Nat} {p : Int} {q : Nat} (h : Fr k p q) (hk : k ≤ 4096) : rightQ (lowS p q) = true := right_low h.1 (by have := h.2.1; omega) (by have := h.2.2; omega)
theorem Fr.mul {k m : Nat} {p p' : Int} {q q' : Nat} (h : Fr k p q) (h' : Fr m p' q') : Fr (k + m) (p * p') (q * q') :=
  ⟨Nat.mul_pos h.1 h'.1, by have := dl_mul p p'; have := h.2.1; have := h'.2.1; omega, by rw [Int.natCast_mul]; have := dl_mul (q : Int) q'; have := h.2.2; have := h'.2.2; omega⟩
theorem Fr.add {k m : Nat} {p p' : Int} {q q' : Nat} (h : Fr k p q) (h' : Fr m p' q') : Fr (k + m + 1) (p * q' + p' * q) (q * q') :=
  ⟨Nat.mul_pos h.1 h'.1, by have := dl_add (p * q') (p' * q); have := dl_mul p q'; have := dl_mul p' q; have := h.2.1; have := h.2.2; have := h'.2.1; have := h'.2.2; omega, by rw [Int.natCast_mul]; have := dl_mul (q : Int) q'; have := h.2.2; have := h'.2.2; omega⟩
theorem Fr.sub {k m : Nat} {p p' : Int} {q q' : Nat} (h : Fr k p q) (h' : Fr m p' q') : Fr (k + m + 1) (p * q' - p' * q) (q * q') :=
  ⟨Nat.mul_pos h.1 h'.1, by have := dl_sub (p * q') (p' * q); have := dl_mul p q'; have := dl_mul p' q; have := h.2.1; have := h.2.2; have := h'.2.1; have := h'.2.2; omega, by rw [Int.natCast_mul]; have := dl_mul (q : Int) q'; have := h.2.2; have := h'.2.2; omega⟩
theorem Fr.mono {k m : Nat} {p : Int} {q : Nat} (h : Fr k p q) (hk : k ≤ m) : Fr m p q := ⟨h.1, Nat.le_trans h.2.1 hk, Nat.le_trans h.2.2 hk⟩
section
variable {k m : Nat} {p p' : Int} {q q' : Nat} (h : Fr k p q) (h' : Fr m p' q') (hk : k + m + 1 ≤ 4096)
include h h' hk
theorem err_low : errQ (lowS p q) (lowS p' q') = 0 := errQ_zero.2 ⟨h.right (by omega), h'.right (by omega)⟩
theorem addQ_low : addQE (lowS p q) (lowS p' q') = 0 ∧ addQS (lowS p q) (lowS p' q') = lowS (p * q' + p' * q) (q * q') := by
  have e := err_low h h' hk
  have b := h.low
  have b' := h'.low
  have e2 : addQE (lowS p q) (lowS p' q') = 0 := by
    unfold addQE
    rw [if_pos e]
    refine if_pos ?_
    unfold sumOK
    generalize qn (lowS p q) = a at *
    generalize qd (lowS p q) = d at *
    generalize qn (lowS p' q') = a' at *
    generalize qd (lowS p' q') = d' at *
    have h1 := dl_mul a d'
    have h2 := dl_mul a' d
    have h3 := dl_mul (d : Int) d'
    have h4 := dl_add (a * d') (a' * d)
    exact ⟨by omega, by omega, by omega, by omega⟩
  refine ⟨e2, ?_⟩
  unfold addQS
  rw [if_pos e2]
  exact add_low h.1 h'.1
theorem mulQ_low : mulQE (lowS p q) (lowS p' q') = 0 ∧ mulQS (lowS p q) (lowS p' q') = lowS (p * p') (q * q') := by
  have e := err_low h h' hk
  have b := h.low
  have b' := h'.low
  have e2 : mulQE (lowS p q) (lowS p' q') = 0 := by
    unfold mulQE
    rw [if_pos e]
    refine if_pos ?_
    generalize qn (lowS p q) = a at *
    generalize qd (lowS p q) = d at *
    generalize qn (lowS p' q') = a' at *
    generalize qd (lowS p' q') = d' at *
    have h1 := dl_mul a a'
    have h3 := dl_mul (d : Int) d'
    exact ⟨by omega, by omega⟩
  refine ⟨e2, ?_⟩
  unfold mulQS
  rw [if_pos e2]
  exact mul_low h.1 h'.1
end
theorem dl_one : dl 1 = 1 := by unfold dl; rw [show (1 : Int).natAbs = 1 from rfl, dec_one]; rfl
theorem Fr.int {k : Nat} {n : Int} (hk : 1 ≤ k) (h : dl n ≤ k) : Fr k n 1 := ⟨by omega, h, by rw [show ((1 : Nat) : Int) = 1 from rfl, dl_one]; exact hk⟩
theorem low_int (n : Int) : lowS n 1 = decI n := by
  rw [low_red (by simp)]; unfold ratS; exact if_pos rfl
/-- a right number is a fraction -/
theorem fr_right {s : Str} (h : rightQ s = true) : s = lowS (qn s) (qd s) ∧ Nat.gcd (qn s).natAbs (qd s) = 1 ∧ 0 < qd s ∧ s = ratS (qn s) (qd s) ∧ dl (qn s) ≤ s.length ∧ dl ((qd s : Nat) : Int) ≤ s.length := by
  obtain ⟨n, d, h1, h2, h3, h4, rfl⟩ := rightQ_out h
  rw [qn_ratS, qd_ratS]
  refine ⟨(low_red h2).symm, h2, h1, rfl, ?_, ?_⟩
  · have : dl n ≤ (decI n).length := by
      have := congrArg List.length (mag_decI n); have h9 := mag_length (decI n); unfold dl; omega
    unfold ratS
    split
    · exact this
    · rw [List.length_append, List.length_cons]; omega
  · rw [dl_nat]
    unfold ratS
    split
    · rename_i h; subst h; rw [dec_one]; have := dl_pos n; have h9 := mag_length (decI n); have h8 := congrArg List.length (mag_decI n); unfold dl at this; show 1 ≤ (decI n).length; omega
    · rw [List.length_append, List.length_cons]; omega
theorem fr_of {s : Str} {k : Nat} (h : rightQ s = true) (hl : s.length ≤ k) : Fr k (qn s) (qd s) := by
  have := fr_right h
  exact ⟨this.2.2.1, by omega, by omega⟩
end Num
end Go.Proofs.YtmppmdmekomjbaaGreatDoor

/- What lorryref04 adds to the plain theory of rational numbers: plain. -/
import Derived.Test.YtmppmdmekomjbaaGreatDoorRatF
namespace Go.Proofs.YtmppmdmekomjbaaGreatDoor
namespace Num
set_option linter.unusedVariables false

/-- the negative of a number's text that is not 0 -/
def negT (b : Str) : Str := if neg? b = true then b.drop 1 else 45 :: b
theorem ratS_neg {n : Nat} (hn : 0 < n) (d : Nat) : ratS (-(n : Int)) d = 45 :: ratS (n : Int) d := by
  unfold ratS
  rw [decI_neg hn, decI_nat]
  split <;> rfl
theorem neg?_dec (n : Nat) (t : Str) : neg? (dec n ++ t) = false := by
  have hp := length_dec_pos n
  have hd := right_all (right_dec n)
  generalize dec n = l at *
  match l, hp with
  | x :: l, _ =>
    have hx : isDig x = true := by simpa using (List.all_eq_true.1 hd x (by simp))
    by_cases h : x = 45
    · subst h; exact absurd hx (by decide)
    · unfold neg?; simp [h]
theorem negT_right {b : Str} (rb : rightQ b = true) (hb : b ≠ [48]) : rightQ (negT b) = true ∧ qn (negT b) = -(qn b) ∧ qd (negT b) = qd b := by
  obtain ⟨n, d, h1, h2, h3, h4, rfl⟩ := rightQ_out rb
  have hn0 : n ≠ 0 := by
    intro h; apply hb; subst h
    have hd : d = 1 := by simpa using h2
    rw [hd]; unfold ratS; rw [if_pos rfl]; exact decI_zero
  have key : negT (ratS n d) = ratS (-n) d := by
    by_cases hn : n < 0
    · obtain ⟨m, rfl⟩ : ∃ m : Nat, n = -(m : Int) := ⟨n.natAbs, by omega⟩
      rw [ratS_neg (by omega), Int.neg_neg]
      unfold negT
      rw [if_pos (by rfl)]; rfl
    · obtain ⟨m, rfl⟩ : ∃ m : Nat, n = (m : Int) := ⟨n.toNat, by omega⟩
      rw [ratS_neg (by omega)]
      unfold negT
      rw [if_neg]
      unfold ratS
      rw [decI_nat]
      have e0 := neg?_dec m []
      have e1 := neg?_dec m (47 :: dec d)
      rw [List.append_nil] at e0
      split
      · rw [e0]; decide
      · rw [e1]; decide
  rw [key, qn_ratS, qn_ratS, qd_ratS, qd_ratS]
  exact ⟨rightQ_ratS h1 (by rw [Int.natAbs_neg]; exact h2) (by rw [dl_neg]; exact h3) h4, rfl, rfl⟩
theorem subQ_negT {a b : Str} (ra : rightQ a = true) (rb : rightQ b = true) (hb : b ≠ [48]) : addQE a (negT b) = subQE a b ∧ addQS a (negT b) = subQS a b := by
  have h := negT_right rb hb
  have e1 : errQ a b = 0 := errQ_zero.2 ⟨ra, rb⟩
  have e2 : errQ a (negT b) = 0 := errQ_zero.2 ⟨ra, h.1⟩
  have hS : sumOK (qn a * qd b) (-(qn b) * qd a) (qn a * qd b + -(qn b) * qd a) ((qd a : Int) * qd b) ↔ sumOK (qn a * qd b) (qn b * qd a) (qn a * qd b - qn b * qd a) ((qd a : Int) * qd b) := by
    unfold sumOK; rw [Int.neg_mul, dl_neg, ← Int.sub_eq_add_neg]
  have hE : addQE a (negT b) = subQE a b := by
    unfold addQE subQE
    rw [e1, e2, h.2.1, h.2.2, if_pos rfl, if_pos rfl]
    by_cases h9 : sumOK (qn a * qd b) (qn b * qd a) (qn a * qd b - qn b * qd a) ((qd a : Int) * qd b)
    · rw [if_pos h9, if_pos (hS.2 h9)]
    · rw [if_neg h9, if_neg (fun h => h9 (hS.1 h))]
  refine ⟨hE, ?_⟩
  unfold addQS subQS
  rw [hE, h.2.1, h.2.2, Int.neg_mul, ← Int.sub_eq_add_neg]
theorem subQ_zero (a : Str) : addQE a [48] = subQE a [48] ∧ addQS a [48] = subQS a [48] := by
  have h0 : qn [48] = 0 := by decide
  have hE : addQE a [48] = subQE a [48] := by
    unfold addQE subQE
    simp only [h0, Int.zero_mul, Int.sub_zero, Int.add_zero]
  refine ⟨hE, ?_⟩
  unfold addQS subQS
  rw [hE, h0, Int.zero_mul, Int.sub_zero, Int.add_zero]
theorem cmpQ_zero (a : Str) : cmpQ a [48] = signQ a := by
  unfold cmpQ signQ
  have h0 : qn [48] = 0 := by decide
  have h1 : qd [48] = 1 := by decide
  by_cases h : rightQ a = true
  · rw [if_pos (errQ_zero.2 ⟨h, by decide +kernel⟩), if_pos h, h0, h1, Int.zero_mul, Int.natCast_one, Int.mul_one]
  · rw [if_neg (fun e => h (errQ_zero.1 e).1), if_neg h]
theorem mulQ_form {a b : Str} (h : errQ a b ≠ 0) : mulQE a b = 3 ∧ mulQS a b = [] ∧ addQE a b = 3 ∧ addQS a b = [] ∧ subQE a b = 3 ∧ subQS a b = [] ∧ quoQE a b = 3 ∧ quoQS a b = [] := by
  have e1 : mulQE a b = 3 := by unfold mulQE; rw [if_neg h]
  have e2 : addQE a b = 3 := by unfold addQE; rw [if_neg h]
  have e3 : subQE a b = 3 := by unfold subQE; rw [if_neg h]
  have e4 : quoQE a b = 3 := by unfold quoQE; rw [if_neg h]
  refine ⟨e1, ?_, e2, ?_, e3, ?_, e4, ?_⟩
  · unfold mulQS; rw [e1]; rfl
  · unfold addQS; rw [e2]; rfl
  · unfold subQS; rw [e3]; rfl
  · unfold quoQS; rw [e4]; rfl
end Num
end Go.Proofs.YtmppmdmekomjbaaGreatDoor

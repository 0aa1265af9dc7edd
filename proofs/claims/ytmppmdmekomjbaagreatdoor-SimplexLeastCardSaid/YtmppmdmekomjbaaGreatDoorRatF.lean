/- The operations on fractions that need not be reduced: plain. -/
import Derived.Test.YtmppmdmekomjbaaGreatDoorRatL
namespace Go.Proofs.YtmppmdmekomjbaaGreatDoor
namespace Num
set_option linter.unusedVariables false

theorem quoS_neg {x : Int} {y : Int} (hy : y ≠ 0) : ∃ p : Int, ∃ q : Nat, 0 < q ∧ quoS x y = lowS p q ∧ p * y = x * q ∧ dl p = dl x ∧ dl (q : Int) = dl y := by
  unfold quoS
  by_cases h : y < 0
  · rw [if_pos h]
    refine ⟨-x, y.natAbs, by omega, rfl, ?_, dl_neg x, ?_⟩
    · rw [show ((y.natAbs : Nat) : Int) = -y by omega]; grind
    · unfold dl; rw [Int.natAbs_natCast]
  · rw [if_neg h]
    refine ⟨x, y.natAbs, by omega, rfl, ?_, rfl, ?_⟩
    · rw [show ((y.natAbs : Nat) : Int) = y by omega]
    · unfold dl; rw [Int.natAbs_natCast]
/-- a fraction of at most k digits above and below -/
def Fr (k : Nat) (p : Int) (q : Nat) : Prop := 0 < q ∧ dl p ≤ k ∧ dl (q : Int) ≤ k
theorem Fr.low {k : Nat} {p : Int} {q : Nat} (h : Fr k p q) : dl (qn (lowS p q)) ≤ k ∧ dl ((qd (lowS p q) : Nat) : Int) ≤ k := by
  obtain ⟨g, hg, e1, e2, h3, h4, h5, h6, h7⟩ := low_read p h.1
  exact ⟨Nat.le_trans (dl_mono h6) h.2.1, Nat.le_trans (dl_mono (by rw [Int.natAbs_natCast, Int.natAbs_natCast]; exact h7)) h.2.2⟩
theorem Fr.right {k : Nat} {p : Int} {q : Nat} (h : Fr k p q) (hk : k ≤ 4096) : rightQ (lowS p q) = true := right_low h.1 (by have := h.2.1; omega) (by have := h.2.2; omega)
theorem Fr.mul {k m : Nat} {p p' : Int} {q q' : Nat} (h : Fr k p q) (h' : Fr m p' q') : Fr (k + m) (p * p') (q * q') :=
  ⟨Nat.mul_pos h.1 h'.1, by have := dl_mul p p'; have := h.2.1; have := h'.2.1; omega, by rw [Int.natCast_mul]; have := dl_mul (q : Int) q'; have := h.2.2; have := h'.2.2; omega⟩
theorem Fr.add {k m : Nat} {p p' : Int} {q q' : Nat} (h : Fr k p q) (h' : Fr m p' q') : Fr (k + m + 1) (p * q' + p' * q) (q * q') :=
  ⟨Nat.mul_pos h.1 h'.1, by have := dl_add (p * q') (p' * q); have := dl_mul p q'; have := dl_mul p' q; have := h.2.1; have := h.2.2; have := h'.2.1; have := h'.2.2; omega, by rw [Int.natCast_mul]; have := dl_mul (q : Int) q'; have := h.2.2; have := h'.2.2; omega⟩
theorem Fr.sub {k m : Nat} {p p' : Int} {q q' : Nat} (h : Fr k p q) (h' : Fr m p' q') : Fr (k + m + 1) (p * q' - p' * q) (q * q') :=
  ⟨Nat.mul_pos h.1 h'.1, by have := dl_sub (p * q') (p' * q); have := dl_mul p q'; have := dl_mul p' q; have := h.2.1; have := h.2.2; have := h'.2.1; have := h'.2.2; omega, by rw [Int.natCast_mul]; have := dl_mul (q : Int) q'; have := h.2.2; have := h'.2.2; omega⟩
theorem Fr.mono {k m : Nat} {p : Int} {q : Nat} (h : Fr k p q) (hk : k ≤ m) : Fr m p q := ⟨h.1, Nat.le_trans h.2.1 hk, Nat.le_trans h.2.2 hk⟩
section
variable {k m : Nat} {p p' : Int} {q q' : Nat} (h : Fr k p q) (h' : Fr m p' q') (hk : k + m + 1 ≤ 4096)
include h h' hk
theorem err_low : errQ (lowS p q) (lowS p' q') = 0 := errQ_zero.2 ⟨h.right (by omega), h'.right (by omega)⟩
theorem addQ_low : addQE (lowS p q) (lowS p' q') = 0 ∧ addQS (lowS p q) (lowS p' q') = lowS (p * q' + p' * q) (q * q') := by
  have e := err_low h h' hk
  have b := h.low
  have b' := h'.low
  have e2 : addQE (lowS p q) (lowS p' q') = 0 := by
    unfold addQE
    rw [if_pos e]
    refine if_pos ?_
    unfold sumOK
    generalize qn (lowS p q) = a at *
    generalize qd (lowS p q) = d at *
    generalize qn (lowS p' q') = a' at *
    generalize qd (lowS p' q') = d' at *
    have h1 := dl_mul a d'
    have h2 := dl_mul a' d
    have h3 := dl_mul (d : Int) d'
    have h4 := dl_add (a * d') (a' * d)
    exact ⟨by omega, by omega, by omega, by omega⟩
  refine ⟨e2, ?_⟩
  unfold addQS
  rw [if_pos e2]
  exact add_low h.1 h'.1
theorem subQ_low : subQE (lowS p q) (lowS p' q') = 0 ∧ subQS (lowS p q) (lowS p' q') = lowS (p * q' - p' * q) (q * q') := by
  have e := err_low h h' hk
  have b := h.low
  have b' := h'.low
  have e2 : subQE (lowS p q) (lowS p' q') = 0 := by
    unfold subQE
    rw [if_pos e]
    refine if_pos ?_
    unfold sumOK
    generalize qn (lowS p q) = a at *
    generalize qd (lowS p q) = d at *
    generalize qn (lowS p' q') = a' at *
    generalize qd (lowS p' q') = d' at *
    have h1 := dl_mul a d'
    have h2 := dl_mul a' d
    have h3 := dl_mul (d : Int) d'
    have h4 := dl_sub (a * d') (a' * d)
    exact ⟨by omega, by omega, by omega, by omega⟩
  refine ⟨e2, ?_⟩
  unfold subQS
  rw [if_pos e2]
  exact sub_low h.1 h'.1
theorem mulQ_low : mulQE (lowS p q) (lowS p' q') = 0 ∧ mulQS (lowS p q) (lowS p' q') = lowS (p * p') (q * q') := by
  have e := err_low h h' hk
  have b := h.low
  have b' := h'.low
  have e2 : mulQE (lowS p q) (lowS p' q') = 0 := by
    unfold mulQE
    rw [if_pos e]
    refine if_pos ?_
    generalize qn (lowS p q) = a at *
    generalize qd (lowS p q) = d at *
    generalize qn (lowS p' q') = a' at *
    generalize qd (lowS p' q') = d' at *
    have h1 := dl_mul a a'
    have h3 := dl_mul (d : Int) d'
    exact ⟨by omega, by omega⟩
  refine ⟨e2, ?_⟩
  unfold mulQS
  rw [if_pos e2]
  exact mul_low h.1 h'.1
theorem quoQ_low (h0 : p' ≠ 0) : quoQE (lowS p q) (lowS p' q') = 0 ∧ quoQS (lowS p q) (lowS p' q') = quoS (p * q') (q * p') := by
  have e := err_low h h' hk
  have b := h.low
  have b' := h'.low
  obtain ⟨g, hg, e1, e2, h3, _⟩ := low_read p h.1
  obtain ⟨g', hg', e1', e2', h3', _⟩ := low_read p' h'.1
  have hz : qn (lowS p' q') ≠ 0 := by intro hz; apply h0; rw [e1', hz, Int.zero_mul]
  have e3 : quoQE (lowS p q) (lowS p' q') = 0 := by
    unfold quoQE
    rw [if_pos e, if_neg hz]
    refine if_pos ?_
    generalize qn (lowS p q) = a at *
    generalize qd (lowS p q) = d at *
    generalize qn (lowS p' q') = a' at *
    generalize qd (lowS p' q') = d' at *
    have h1 := dl_mul a d'
    have h3 := dl_mul (d : Int) a'
    exact ⟨by omega, by omega⟩
  refine ⟨e3, ?_⟩
  unfold quoQS
  rw [if_pos e3]
  have hq0 : (q : Int) ≠ 0 := by have := h.1; omega
  have hd0 : ((qd (lowS p q) : Nat) : Int) ≠ 0 := by omega
  refine quoS_eq (Int.mul_ne_zero hd0 hz) (Int.mul_ne_zero hq0 h0) ?_
  clear hq0 hd0 e3 e b b' h h' hz h0
  generalize qn (lowS p q) = a at *
  generalize qd (lowS p q) = d at *
  generalize qn (lowS p' q') = a' at *
  generalize qd (lowS p' q') = d' at *
  subst e1 e1' e2' e2
  simp only [Int.natCast_mul]
  grind
theorem quoQ_zero (h0 : p' = 0) : quoQE (lowS p q) (lowS p' q') = 10 ∧ quoQS (lowS p q) (lowS p' q') = [] := by
  have e := err_low h h' hk
  obtain ⟨g', hg', e1', e2', h3', _⟩ := low_read p' h'.1
  have hz : qn (lowS p' q') = 0 := by
    rw [h0] at e1' ⊢
    rcases Int.mul_eq_zero.1 e1'.symm with h | h
    · exact h
    · exact absurd h (by omega)
  have e2 : quoQE (lowS p q) (lowS p' q') = 10 := by unfold quoQE; rw [if_pos e, if_pos hz]
  refine ⟨e2, ?_⟩
  unfold quoQS
  rw [e2]; rfl
theorem cmpQ_low : cmpQ (lowS p q) (lowS p' q') = ordI (p * q') (p' * q) := by
  have e := err_low h h' hk
  obtain ⟨g, hg, e1, e2, h3, _⟩ := low_read p h.1
  obtain ⟨g', hg', e1', e2', h3', _⟩ := low_read p' h'.1
  unfold cmpQ
  rw [if_pos e]
  clear e h h' hk
  generalize qn (lowS p q) = a at *
  generalize qd (lowS p q) = d at *
  generalize qn (lowS p' q') = a' at *
  generalize qd (lowS p' q') = d' at *
  subst e1 e2 e1' e2'
  simp only [Int.natCast_mul]
  have hG : (0 : Int) < (g : Int) * g' := Int.mul_pos (by omega) (by omega)
  rw [show a * (g : Int) * ((d' : Int) * g') = a * d' * (g * g') by grind, show a' * (g' : Int) * ((d : Int) * g) = a' * d * (g * g') by grind]
  generalize (g : Int) * g' = c at hG
  unfold ordI
  by_cases hl : a * d' < a' * d
  · rw [if_pos hl, if_pos (Int.mul_lt_mul_of_pos_right hl hG)]
  · rw [if_neg hl, if_neg (fun hc => hl (Int.lt_of_mul_lt_mul_right hc (by omega)))]
    by_cases hg2 : a' * d < a * d'
    · rw [if_pos hg2, if_pos (Int.mul_lt_mul_of_pos_right hg2 hG)]
    · rw [if_neg hg2, if_neg (fun hc => hg2 (Int.lt_of_mul_lt_mul_right hc (by omega)))]
end
theorem dl_one : dl 1 = 1 := by unfold dl; rw [show (1 : Int).natAbs = 1 from rfl, dec_one]; rfl
theorem Fr.int {k : Nat} {n : Int} (hk : 1 ≤ k) (h : dl n ≤ k) : Fr k n 1 := ⟨by omega, h, by rw [show ((1 : Nat) : Int) = 1 from rfl, dl_one]; exact hk⟩
theorem low_int (n : Int) : lowS n 1 = decI n := by
  rw [low_red (by simp)]; unfold ratS; exact if_pos rfl
theorem signQ_low {k : Nat} {p : Int} {q : Nat} (h : Fr k p q) (hk : k ≤ 4096) : signQ (lowS p q) = ordI p 0 := by
  obtain ⟨g, hg, e1, e2, h3, _⟩ := low_read p h.1
  unfold signQ
  rw [if_pos (h.right hk)]
  clear h
  generalize qn (lowS p q) = a at *
  subst e1
  have hG : (0 : Int) < (g : Int) := by omega
  generalize (g : Int) = c at hG
  clear e2 h3 hk
  show ordI a 0 = ordI (a * c) 0
  unfold ordI
  by_cases hl : a < 0
  · rw [if_pos hl, if_pos (by have := Int.mul_lt_mul_of_pos_right hl hG; omega)]
  · rw [if_neg hl, if_neg (Int.not_lt.2 (Int.mul_nonneg (show 0 ≤ a by omega) (show 0 ≤ c by omega)))]
    by_cases hg2 : 0 < a
    · rw [if_pos hg2, if_pos (Int.mul_pos hg2 hG)]
    · rw [if_neg hg2, if_neg (by rw [show a = 0 by omega, Int.zero_mul]; omega)]
/-- a right number is a fraction -/
theorem fr_right {s : Str} (h : rightQ s = true) : s = lowS (qn s) (qd s) ∧ Nat.gcd (qn s).natAbs (qd s) = 1 ∧ 0 < qd s ∧ s = ratS (qn s) (qd s) ∧ dl (qn s) ≤ s.length ∧ dl ((qd s : Nat) : Int) ≤ s.length := by
  obtain ⟨n, d, h1, h2, h3, h4, rfl⟩ := rightQ_out h
  rw [qn_ratS, qd_ratS]
  refine ⟨(low_red h2).symm, h2, h1, rfl, ?_, ?_⟩
  · have : dl n ≤ (decI n).length := by
      have := congrArg List.length (mag_decI n); have h9 := mag_length (decI n); unfold dl; omega
    unfold ratS
    split
    · exact this
    · rw [List.length_append, List.length_cons]; omega
  · rw [dl_nat]
    unfold ratS
    split
    · rename_i h; subst h; rw [dec_one]; have := dl_pos n; have h9 := mag_length (decI n); have h8 := congrArg List.length (mag_decI n); unfold dl at this; show 1 ≤ (decI n).length; omega
    · rw [List.length_append, List.length_cons]; omega
theorem fr_of {s : Str} {k : Nat} (h : rightQ s = true) (hl : s.length ≤ k) : Fr k (qn s) (qd s) := by
  have := fr_right h
  exact ⟨this.2.2.1, by omega, by omega⟩
theorem zero_iff {s : Str} (h : rightQ s = true) : s = [48] ↔ qn s = 0 := by
  have := fr_right h
  constructor
  · intro e; rw [e]; decide
  · intro e
    have h2 := this.2.1
    rw [e] at h2
    rw [this.2.2.2.1, e]
    have : qd s = 1 := by simpa using h2
    rw [this]; unfold ratS; rw [if_pos rfl]; exact decI_zero
end Num
end Go.Proofs.YtmppmdmekomjbaaGreatDoor

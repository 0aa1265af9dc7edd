/- Numbers as texts: which texts are integers; plain. -/
import Derived.Test.YtkggdkkfdbbglaaDoorWNum
namespace Go.Proofs.YtkggdkkfdbbglaaDoor
namespace Num
def fits (z : Int) : Prop := -9223372036854775808 ≤ z ∧ z ≤ 9223372036854775807
instance (z : Int) : Decidable (fits z) := by unfold fits; infer_instance
def numE (s : Str) : Int := if rightI s = true then (if fits (valI s) then 0 else 4) else 3
def numV (s : Str) : Int := if numE s = 0 then valI s else 0
theorem num_bad {s : Str} (h : rightI s = false) : numE s = 3 ∧ numV s = 0 := by
  have : numE s = 3 := by unfold numE; rw [h]; rfl
  exact ⟨this, by unfold numV; rw [this]; rfl⟩
theorem num_big {s : Str} (h : rightI s = true) (h2 : ¬ fits (valI s)) : numE s = 4 ∧ numV s = 0 := by
  have : numE s = 4 := by unfold numE; rw [if_pos h, if_neg h2]
  exact ⟨this, by unfold numV; rw [this]; rfl⟩
theorem num_good {s : Str} (h : rightI s = true) (h2 : fits (valI s)) : numE s = 0 ∧ numV s = valI s := by
  have : numE s = 0 := by unfold numE; rw [if_pos h, if_pos h2]
  exact ⟨this, by unfold numV; rw [this]; rfl⟩
theorem num_decI {z : Int} (h : fits z) : numE (decI z) = 0 ∧ numV (decI z) = z := by
  have := num_good (rightI_decI z) (by rw [valI_decI]; exact h)
  rw [valI_decI] at this; exact this
theorem num_zero {s : Str} (h : numE s = 0) : decI (numV s) = s ∧ fits (numV s) := by
  unfold numV; rw [if_pos h]
  unfold numE at h
  by_cases h1 : rightI s = true
  · rw [if_pos h1] at h
    by_cases h2 : fits (valI s)
    · exact ⟨decI_valI h1, h2⟩
    · rw [if_neg h2] at h; cases h
  · rw [if_neg h1] at h; cases h
/-- when a text is that of an integer -/
theorem rightI_no_empty {s : Str} (h : mag s = []) : rightI s = false := by unfold rightI; rw [h]; rfl
theorem rightI_no_zero {s : Str} (h : (mag s).head? = some 48) (h2 : s ≠ [48]) : rightI s = false := by
  unfold rightI right
  rw [h]
  by_cases hn : neg? s = true
  · rw [hn]
    by_cases h3 : mag s = [48]
    · simp [h3]
    · simp [h3]
  · have : mag s = s := by unfold mag; rw [if_neg hn]
    rw [this] at h ⊢
    simp [h2]
theorem rightI_no_digit {s : Str} (h : (mag s).all isDig = false) : rightI s = false := by unfold rightI right; rw [h]; simp
theorem rightI_yes {s : Str} (h : mag s ≠ []) (h1 : (mag s).head? ≠ some 48 ∨ s = [48]) (h2 : (mag s).all isDig = true) : rightI s = true := by
  unfold rightI right
  rw [h2]
  rcases h1 with h1 | h1
  · have h3 : mag s ≠ [48] := by intro e; rw [e] at h1; exact h1 rfl
    simp [h, h1, h3]
  · subst h1; decide
theorem rightI_mag {s : Str} (h : rightI s = true) : right (mag s) = true := by unfold rightI at h; simp at h; exact h.1
theorem right_parts {s : Str} (h : right s = true) : s.all isDig = true ∧ s ≠ [] := by
  unfold right at h; simp only [Bool.and_eq_true, Bool.not_eq_true', List.isEmpty_eq_false_iff] at h; exact ⟨h.2, h.1.1⟩
theorem tdiv_test (n d : Int) (hd : 0 ≤ d) (hd2 : d ≤ 9) : n < Int.tdiv (-9223372036854775808 + d) 10 ↔ 10 * n - d < -9223372036854775808 := by
  have h : Int.tdiv (-9223372036854775808 + d) 10 = -((9223372036854775808 - d) / 10) := by
    rw [show (-9223372036854775808 + d : Int) = -(9223372036854775808 - d) by omega, Int.neg_tdiv, Int.tdiv_eq_ediv_of_nonneg (by omega)]
  rw [h]; omega
theorem tmod_abs (x : Int) : (Int.tmod x 10).natAbs = x.natAbs % 10 := by rw [Int.natAbs_tmod]; rfl
theorem tdiv_abs (x : Int) : (Int.tdiv x 10).natAbs = x.natAbs / 10 := by rw [Int.natAbs_tdiv]; rfl
theorem dec_len20 {z : Int} (h : fits z) : (dec z.natAbs).length ≤ 20 := by
  refine (length_dec_le (by omega)).2 ?_
  have : (10:Nat) ^ 20 = 100000000000000000000 := by decide
  unfold fits at h
  omega
end Num
end Go.Proofs.YtkggdkkfdbbglaaDoor

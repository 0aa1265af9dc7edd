/- Plain theory of the texts of integers. No program in sight. -/
import Derived.Test.YtkggdkkfdbbglaaDoorNum
namespace Go.Proofs.YtkggdkkfdbbglaaDoor
namespace Num

/-- the text of an integer -/
def decI (z : Int) : Str := if z < 0 then 45 :: dec z.natAbs else dec z.natAbs
/-- is there a minus sign; what stands behind it -/
def neg? (s : Str) : Bool := s.head? == some 45
def mag (s : Str) : Str := if neg? s = true then s.tail else s
def rightI (s : Str) : Bool := right (mag s) && !(neg? s && mag s == [48])
def valI (s : Str) : Int := if neg? s = true then -(val (mag s) : Int) else (val (mag s) : Int)
theorem dec_head_ne (n : Nat) : (dec n).head? ≠ some 45 := by
  intro h
  have := dec_all n
  cases hd : dec n with
  | nil => exact dec_ne_nil n hd
  | cons c t =>
    rw [hd] at h this
    simp at h this
    rw [h] at this
    exact absurd this.1 (by decide)
theorem neg_dec (n : Nat) : neg? (dec n) = false := by unfold neg?; simpa using dec_head_ne n
theorem mag_dec (n : Nat) : mag (dec n) = dec n := by unfold mag; rw [neg_dec]; rfl
theorem neg_minus (s : Str) : neg? (45 :: s) = true := rfl
theorem mag_minus (s : Str) : mag (45 :: s) = s := rfl
theorem neg_decI (z : Int) : neg? (decI z) = decide (z < 0) := by
  unfold decI
  by_cases h : z < 0
  · rw [if_pos h]; simp [h, neg_minus]
  · rw [if_neg h]; simp [h, neg_dec]
theorem mag_decI (z : Int) : mag (decI z) = dec z.natAbs := by
  unfold decI
  by_cases h : z < 0
  · rw [if_pos h]; rfl
  · rw [if_neg h]; exact mag_dec _
theorem valI_decI (z : Int) : valI (decI z) = z := by
  unfold valI
  rw [neg_decI, mag_decI, val_dec]
  by_cases h : z < 0
  · simp [h]; omega
  · simp [h]; omega
theorem rightI_decI (z : Int) : rightI (decI z) = true := by
  unfold rightI
  rw [mag_decI, neg_decI, right_dec]
  by_cases h : z < 0
  · have : dec z.natAbs ≠ [48] := by
      intro e
      have := congrArg val e
      rw [val_dec] at this
      have h2 : val [48] = 0 := rfl
      omega
    simp [this]
  · simp [h]
theorem decI_valI {s : Str} (h : rightI s = true) : decI (valI s) = s := by
  unfold rightI at h
  simp only [Bool.and_eq_true, Bool.not_eq_true', Bool.and_eq_false_iff] at h
  obtain ⟨h1, h2⟩ := h
  by_cases hn : neg? s = true
  · have hm : mag s = s.tail := by unfold mag; rw [if_pos hn]
    have hne : mag s ≠ [48] := by
      rcases h2 with h2 | h2
      · rw [hn] at h2; cases h2
      · intro e; rw [e] at h2; exact absurd h2 (by decide)
    have hpos : val (mag s) ≠ 0 := by
      intro e
      apply hne
      rw [← dec_val h1, e, dec_zero]
    unfold valI decI
    rw [if_pos hn, if_pos (by omega)]
    have : (-(val (mag s) : Int)).natAbs = val (mag s) := by omega
    rw [this, dec_val h1, hm]
    cases s with
    | nil => simp [neg?] at hn
    | cons c t => simp [neg?] at hn; subst hn; rfl
  · have hm : mag s = s := by unfold mag; rw [if_neg hn]
    unfold valI decI
    rw [if_neg hn, if_neg (by omega), Int.natAbs_natCast, dec_val h1, hm]
theorem rightI_iff (s : Str) : rightI s = true ↔ ∃ z, s = decI z := ⟨fun h => ⟨valI s, (decI_valI h).symm⟩, fun ⟨z, e⟩ => e ▸ rightI_decI z⟩
theorem decI_inj {a b : Int} (h : decI a = decI b) : a = b := by rw [← valI_decI a, h, valI_decI]
theorem decI_zero : decI 0 = [48] := by unfold decI; exact dec_zero
theorem decI_nat (n : Nat) : decI (n : Int) = dec n := by unfold decI; rw [if_neg (by omega)]; rfl
theorem decI_neg {n : Nat} (h : 0 < n) : decI (-(n : Int)) = 45 :: dec n := by unfold decI; rw [if_pos (by omega)]; congr 1; congr 1; omega
theorem mag_length (s : Str) : (mag s).length ≤ s.length := by unfold mag; split <;> simp
theorem mag_length_decI (z : Int) : (decI z).length ≤ (dec z.natAbs).length + 1 := by unfold decI; split <;> simp
end Num
end Go.Proofs.YtkggdkkfdbbglaaDoor

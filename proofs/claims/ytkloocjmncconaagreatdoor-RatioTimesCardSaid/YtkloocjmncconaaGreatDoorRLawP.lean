/- What the laws RatioField, RatioOrders, RatioLarge and the examples of chapter 4 say: plain. -/
import Derived.Test.YtkloocjmncconaaGreatDoorRProg4
namespace Go.Proofs.YtkloocjmncconaaGreatDoor
open Num
namespace Num
set_option linter.unusedVariables false

theorem low_ex {s : Str} {p : Int} {q : Nat} (h : rightQ s = true) (h1 : qn s = p) (h2 : qd s = q) : lowS p q = s := by
  have := (fr_right h).1
  rw [h1, h2] at this
  exact this.symm
theorem fr_len {k : Nat} {p : Int} {q : Nat} (h : Fr k p q) : (lowS p q).length ≤ 2 * k + 2 := by
  obtain ⟨g, hg, e1, e2, h3, h4, h5, h6, h7⟩ := low_read p h.1
  have hl := h.low
  rw [h5]
  generalize qn (lowS p q) = a at *
  generalize qd (lowS p q) = d at *
  have := dl_len a
  have h8 := hl.2
  rw [dl_nat] at h8
  unfold ratS
  split
  · omega
  · rw [List.length_append, List.length_cons]; omega
theorem field_law {a b c : Str} (ra : rightQ a = true) (rb : rightQ b = true) (rc : rightQ c = true) (ha : a.length ≤ 100) (hb : b.length ≤ 100) (hc : c.length ≤ 100) :
    addQE a b = 0 ∧ addQE b a = 0 ∧ addQS b a = addQS a b ∧ mulQE (addQS a b) c = 0 ∧ mulQE a c = 0 ∧ mulQE b c = 0 ∧
    addQE (mulQS a c) (mulQS b c) = 0 ∧ addQS (mulQS a c) (mulQS b c) = mulQS (addQS a b) c ∧ subQE (addQS a b) b = 0 ∧ subQS (addQS a b) b = a ∧
    (addQS a b).length ≤ 1000000 ∧ (mulQS a c).length ≤ 1000000 ∧ (mulQS b c).length ≤ 1000000 ∧
    (c = [48] → quoQE (mulQS b c) c = 10 ∧ quoQS (mulQS b c) c = []) ∧ (c ≠ [48] → quoQE (mulQS b c) c = 0 ∧ quoQS (mulQS b c) c = b) := by
  have ea := (fr_right ra).1
  have eb := (fr_right rb).1
  have ec := (fr_right rc).1
  have fa := fr_of ra ha
  have fb := fr_of rb hb
  have fc := fr_of rc hc
  have hz := zero_iff rc
  generalize qn a = p at *
  generalize qd a = q at *
  generalize qn b = r at *
  generalize qd b = s at *
  generalize qn c = u at *
  generalize qd c = v at *
  clear ra rb rc ha hb hc
  rw [ne_eq, hz]
  clear hz
  subst ea eb ec
  have h1 := addQ_low fa fb (by omega)
  have h2 := addQ_low fb fa (by omega)
  have fs := fa.add fb
  have h3 := mulQ_low fs fc (by omega)
  have h4 := mulQ_low fa fc (by omega)
  have h5 := mulQ_low fb fc (by omega)
  have fy := fa.mul fc
  have fz := fb.mul fc
  have h6 := addQ_low fy fz (by omega)
  have h7 := subQ_low fs fb (by omega)
  have hq := fa.1
  have hs := fb.1
  have hv := fc.1
  rw [h1.2, h4.2, h5.2]
  refine ⟨h1.1, h2.1, ?_, h3.1, h4.1, h5.1, h6.1, ?_, h7.1, ?_, ?_, ?_, ?_, ?_, ?_⟩
  · rw [h2.2]
    refine lowS_eq (Nat.mul_pos hs hq) (Nat.mul_pos hq hs) ?_
    simp only [Int.natCast_mul]; grind
  · rw [h6.2, h3.2]
    refine lowS_eq (Nat.mul_pos (Nat.mul_pos hq hv) (Nat.mul_pos hs hv)) (Nat.mul_pos (Nat.mul_pos hq hs) hv) ?_
    simp only [Int.natCast_mul]; grind
  · rw [h7.2]
    refine lowS_eq (Nat.mul_pos (Nat.mul_pos hq hs) hs) hq ?_
    simp only [Int.natCast_mul]; grind
  · have := fr_len fs; omega
  · have := fr_len fy; omega
  · have := fr_len fz; omega
  · intro hu
    exact quoQ_zero fz fc (by omega) hu
  · intro hu
    have h8 := quoQ_low fz fc (by omega) hu
    refine ⟨h8.1, ?_⟩
    rw [h8.2, ← quoS_pos (x := r) hs]
    refine quoS_eq ?_ (by omega) ?_
    · rw [Int.natCast_mul]
      refine Int.mul_ne_zero (Int.mul_ne_zero (by omega) (by omega)) hu
    · simp only [Int.natCast_mul]; grind
theorem orders_law {a b : Str} (ra : rightQ a = true) (rb : rightQ b = true) (ha : a.length ≤ 200) (hb : b.length ≤ 200) :
    subQE a b = 0 ∧ cmpQ a b = signQ (subQS a b) ∧ cmpQ b a = -(signQ (subQS a b)) ∧ (subQS a b).length ≤ 1000000 ∧ (floorQ a).length ≤ 1000000 ∧ (ceilQ a).length ≤ 1000000 ∧
    cmpQ (floorQ a) a ≤ 0 ∧ 0 ≤ cmpQ (ceilQ a) a ∧ subQE (ceilQ a) (floorQ a) = 0 ∧
    ((floorQ a = ceilQ a ∧ floorQ a = a ∧ subQS (ceilQ a) (floorQ a) = [48]) ∨ (floorQ a ≠ ceilQ a ∧ subQS (ceilQ a) (floorQ a) = [49])) := by
  have hfl : floorQ a = decI (qn a / qd a) := by unfold floorQ; rw [if_pos ra]
  have hce : ceilQ a = decI (-(-(qn a) / qd a)) := by unfold ceilQ; rw [if_pos ra]
  have hR := fr_right ra
  have ea := hR.1
  have eg := hR.2.1
  have eR := hR.2.2.2.1
  have eb := (fr_right rb).1
  have fa := fr_of ra ha
  have fb := fr_of rb hb
  clear hR ra rb ha hb
  rw [hfl, hce]
  clear hfl hce
  generalize qn a = p at *
  generalize qd a = q at *
  generalize qn b = r at *
  generalize qd b = s at *
  have hq := fa.1
  have hs := fb.1
  have h1 := subQ_low fa fb (by omega)
  rw [← ea, ← eb] at h1
  have fd := fa.sub fb
  have hsg := signQ_low fd (by omega)
  rw [← h1.2] at hsg
  have hc1 := cmpQ_low fa fb (by omega)
  rw [← ea, ← eb] at hc1
  have hc2 := cmpQ_low fb fa (by omega)
  rw [← ea, ← eb] at hc2
  have hlen := fr_len fd
  rw [← h1.2] at hlen
  have hsw := ordI_sub (p * s) (r * q) _ rfl
  have hsm := Int.natAbs_ediv_le_natAbs p q
  have dlo : dl (p / (q : Int)) ≤ 200 := Nat.le_trans (dl_mono hsm) fa.2.1
  have flo : Fr 200 (p / (q : Int)) 1 := Fr.int (by omega) dlo
  have dhi : dl (-(-p / (q : Int))) ≤ 200 := by
    rw [dl_neg]
    have := dl_mono (Int.natAbs_ediv_le_natAbs (-p) q)
    rw [dl_neg] at this
    exact Nat.le_trans this fa.2.1
  have fhi : Fr 200 (-(-p / (q : Int))) 1 := Fr.int (by omega) dhi
  have l1 := dl_len (p / (q : Int))
  have l2 := dl_len (-(-p / (q : Int)))
  have hlo := cmpQ_low flo fa (by omega)
  rw [← ea, low_int] at hlo
  have hhi := cmpQ_low fhi fa (by omega)
  rw [← ea, low_int] at hhi
  have hsb := subQ_low fhi flo (by omega)
  rw [low_int, low_int] at hsb
  have e1 := Int.mul_ediv_add_emod p q
  have e2 := Int.emod_nonneg p (show (q : Int) ≠ 0 by omega)
  have e3 := Int.emod_lt_of_pos p (show (0 : Int) < q by omega)
  refine ⟨h1.1, by rw [hc1, hsg, hsw], by rw [hc2, hsg, ordI_swap, hsw], by omega, by omega, by omega, ?_, ?_, hsb.1, ?_⟩
  · rw [hlo]
    unfold ordI
    rw [Int.natCast_one, Int.mul_one]
    have : p / (q : Int) * q ≤ p := by rw [Int.mul_comm]; omega
    split
    · omega
    · rw [if_neg (by omega)]; omega
  · rw [hhi]
    unfold ordI
    rw [Int.natCast_one, Int.mul_one]
    have : p ≤ -(-p / (q : Int)) * q := by
      have f1 := Int.mul_ediv_add_emod (-p) q
      have f2 := Int.emod_nonneg (-p) (show (q : Int) ≠ 0 by omega)
      rw [Int.neg_mul, Int.mul_comm]; omega
    rw [if_neg (by omega)]
    split <;> omega
  · rw [hsb.2]
    by_cases hm : p % (q : Int) = 0
    · left
      have hc := ceil_same (show (0 : Int) < q by omega) hm
      rw [hc]
      have hdiv : (q : Int) ∣ p := Int.dvd_of_emod_eq_zero hm
      have hq1 : q = 1 := by
        have h9 : q ∣ p.natAbs := by have := Int.natAbs_dvd_natAbs.2 hdiv; rwa [Int.natAbs_natCast] at this
        have := Nat.gcd_eq_right h9
        omega
      refine ⟨rfl, ?_, ?_⟩
      · rw [eR, hq1, Int.natCast_one, Int.ediv_one]; unfold ratS; rw [if_pos rfl]
      · rw [show p / (q : Int) * ((1 : Nat) : Int) - p / (q : Int) * ((1 : Nat) : Int) = 0 by omega, Nat.mul_one, low_int]; exact decI_zero
    · right
      have hc := ceil_next (show (0 : Int) < q by omega) hm
      rw [hc]
      refine ⟨fun h => by have := decI_inj h; omega, ?_⟩
      rw [show (p / (q : Int) + 1) * ((1 : Nat) : Int) - p / (q : Int) * ((1 : Nat) : Int) = ((1 : Nat) : Int) by omega, Nat.mul_one, low_int, decI_nat, dec_one]
/-- n sevens -/
def sevens (n : Nat) : Str := List.replicate n 55
theorem sevens_length (n : Nat) : (sevens n).length = n := by simp [sevens]
theorem sevens_right {n : Nat} (h : 0 < n) : right (sevens n) = true := by
  unfold right sevens
  rw [List.all_eq_true.2 (fun x hx => by rw [List.eq_of_mem_replicate hx]; decide)]
  match n, h with
  | n + 1, _ => simp [List.replicate_succ]
theorem sevens_dec {n : Nat} (h : 0 < n) : sevens n = dec (val (sevens n)) := (dec_val (sevens_right h)).symm
theorem sevens_low {n : Nat} (h : 0 < n) : sevens n = lowS (val (sevens n) : Nat) 1 := by rw [low_int, decI_nat]; exact sevens_dec h
theorem sevens_fr {n : Nat} (h : 0 < n) : Fr n (val (sevens n) : Nat) 1 := Fr.int h (by rw [dl_nat, ← sevens_dec h, sevens_length]; exact Nat.le_refl n)
theorem sevens_small {n : Nat} (h : 0 < n) (h2 : n ≤ 4096) : rightQ (sevens n) = true := by rw [sevens_low h]; exact (sevens_fr h).right h2
theorem sevens_part {n : Nat} (h : 0 < n) : numT (sevens n) = sevens n := by
  have := (parts_ratS (val (sevens n) : Nat) 1).1
  unfold ratS at this
  rw [if_pos rfl, decI_nat, ← sevens_dec h] at this
  exact this
theorem sevens_big {n : Nat} (h : 4096 < n) : rightQ (sevens n) = false := by
  refine rq_no2 ?_
  rw [sevens_part (by omega), mag_right (sevens_right (by omega)), sevens_length]; exact h
theorem thousand_right : rightQ [49, 48, 48, 48] = true := by decide +kernel
theorem sevens_mul_big {n : Nat} (h : 4096 < n) : mulQE (sevens n) [49, 48, 48, 48] = 3 ∧ mulQS (sevens n) [49, 48, 48, 48] = [] := by
  have e : errQ (sevens n) [49, 48, 48, 48] = 3 := by unfold errQ; rw [sevens_big h]; rfl
  have e2 : mulQE (sevens n) [49, 48, 48, 48] = 3 := by unfold mulQE; rw [e]; rfl
  exact ⟨e2, by unfold mulQS; rw [e2]; rfl⟩
theorem sevens_qn {n : Nat} (h : 0 < n) : qn (sevens n) = (val (sevens n) : Nat) ∧ qd (sevens n) = 1 := by
  have e : sevens n = ratS (val (sevens n) : Nat) 1 := by unfold ratS; rw [if_pos rfl, decI_nat]; exact sevens_dec h
  have h1 := qn_ratS (val (sevens n) : Nat) 1
  have h2 := qd_ratS (val (sevens n) : Nat) 1
  rw [← e] at h1 h2
  exact ⟨h1, h2⟩
theorem long_by {n N v : Nat} (hn : N ≤ n + 2) (hn2 : 2 ≤ n) (h : ¬ (dec v).length ≤ n - 1) (h2 : (dec (v * 1000)).length ≤ N) : False := by
  have h5 : ¬ (dec v).length ≤ n - 1 := h
  have hN : 0 < N := by have := length_dec_pos (v * 1000); omega
  have h4 := (length_dec_le hN).1 h2
  have hv : 10 ^ (n - 1) ≤ v := by
    rw [length_dec_le (by omega)] at h5; omega
  have h6 : 10 ^ N ≤ 10 ^ (n - 1) * 10 ^ 3 := by
    rw [← Nat.pow_add]
    exact Nat.pow_le_pow_right (by omega) (by omega)
  rw [show (10 : Nat) ^ 3 = 1000 by rfl] at h6
  have := Nat.mul_le_mul_right 1000 hv
  omega
theorem sevens_mul {n : Nat} (h : 4094 ≤ n) (h2 : n ≤ 4096) : mulQE (sevens n) [49, 48, 48, 48] = 4 ∧ mulQS (sevens n) [49, 48, 48, 48] = [] := by
  have e : errQ (sevens n) [49, 48, 48, 48] = 0 := errQ_zero.2 ⟨sevens_small (by omega) h2, thousand_right⟩
  have e2 : mulQE (sevens n) [49, 48, 48, 48] = 4 := by
    unfold mulQE
    rw [if_pos e, if_neg]
    rintro ⟨h3, _⟩
    rw [(sevens_qn (by omega)).1, show qn [49, 48, 48, 48] = ((1000 : Nat) : Int) by decide, ← Int.natCast_mul, dl_nat] at h3
    refine long_by (n := n) (by omega) (by omega) ?_ h3
    rw [← sevens_dec (by omega), sevens_length]; omega
  exact ⟨e2, by unfold mulQS; rw [e2]; rfl⟩
theorem sevens_add {n : Nat} (h : 4094 ≤ n) (h2 : n ≤ 4096) : addQE (sevens n) [48] = 0 ∧ addQS (sevens n) [48] = sevens n := by
  have e : errQ (sevens n) [48] = 0 := errQ_zero.2 ⟨sevens_small (by omega) h2, by decide⟩
  have hd : dl ((val (sevens n) : Nat) : Int) = n := by rw [dl_nat, ← sevens_dec (by omega), sevens_length]
  have hq := sevens_qn (n := n) (by omega)
  have h0 : qn [48] = 0 := by decide
  have h1 : qd [48] = 1 := by decide
  have e2 : addQE (sevens n) [48] = 0 := by
    unfold addQE
    rw [if_pos e, if_pos]
    unfold sumOK
    rw [hq.1, hq.2, h0, h1, Int.natCast_one, Int.mul_one, Int.mul_one, Int.mul_one, Int.add_zero, hd]
    exact ⟨h2, by decide +kernel, h2, by rw [dl_one]; omega⟩
  refine ⟨e2, ?_⟩
  unfold addQS
  rw [if_pos e2, hq.1, hq.2, h0, h1, Int.natCast_one, Int.mul_one, Int.mul_one, Int.add_zero, Nat.mul_one]
  exact (sevens_low (by omega)).symm
theorem sevens_neg {n : Nat} (h : 0 < n) (h2 : n ≤ 4096) : signQ (45 :: sevens n) = -1 := by
  have hp : 0 < val (sevens n) := by
    have h5 : sevens n ≠ [48] := by
      unfold sevens
      match n, h with
      | n + 1, _ => rw [List.replicate_succ]; intro h; exact absurd (List.cons.inj h).1 (by decide)
    refine Nat.pos_of_ne_zero fun h0 => h5 ?_
    rw [sevens_dec h, h0]; exact dec_zero
  have e : 45 :: sevens n = decI (-((val (sevens n) : Nat) : Int)) := by rw [decI_neg hp, ← sevens_dec h]
  rw [e, ← low_int]
  rw [signQ_low (k := n) (Fr.int h (by rw [dl_neg, dl_nat, ← sevens_dec h, sevens_length]; exact Nat.le_refl n)) h2]
  unfold ordI
  rw [if_pos (by omega)]
end Num
end Go.Proofs.YtkloocjmncconaaGreatDoor

/- Texts of rational numbers: plain. -/
import Derived.Test.YtmppmdmekomjbaaGreatDoorG1
namespace Go.Proofs.YtmppmdmekomjbaaGreatDoor
set_option linter.unusedVariables false
namespace Num

/-- what stands before and behind the first slash -/
def hasS (s : Str) : Bool := s.any (· == 47)
def preS (s : Str) : Str := s.takeWhile (· != 47)
def postS (s : Str) : Str := (s.dropWhile (· != 47)).drop 1
def numT (s : Str) : Str := if hasS s = true then preS s else s
def denT (s : Str) : Str := if hasS s = true then postS s else [49]
/-- the text of n over d -/
def ratS (n : Int) (d : Nat) : Str := if d = 1 then decI n else decI n ++ 47 :: dec d
theorem no_slash_dec (d : Nat) : ∀ c ∈ dec d, c ≠ 47 := by
  intro c hc e
  have := List.all_eq_true.1 (dec_all d) c hc
  rw [e] at this; exact absurd this (by decide)
theorem no_slash_decI (n : Int) : ∀ c ∈ decI n, c ≠ 47 := by
  intro c hc
  unfold decI at hc
  by_cases h : n < 0
  · rw [if_pos h] at hc
    rcases List.mem_cons.1 hc with rfl | hc
    · decide
    · exact no_slash_dec _ c hc
  · rw [if_neg h] at hc; exact no_slash_dec _ c hc
theorem hasS_no {s : Str} (h : ∀ c ∈ s, c ≠ 47) : hasS s = false := by
  unfold hasS
  rw [List.any_eq_false]
  intro c hc; simpa using h c hc
theorem takeWhile_no {s : Str} (h : ∀ c ∈ s, c ≠ 47) (t : Str) : (s ++ 47 :: t).takeWhile (· != 47) = s ∧ (s ++ 47 :: t).dropWhile (· != 47) = 47 :: t := by
  induction s with
  | nil => simp
  | cons c r ih =>
    have hc := h c (by simp)
    have h2 : (c != 47) = true := by simpa using hc
    have := ih (fun x hx => h x (by simp [hx]))
    rw [List.cons_append, List.takeWhile_cons, List.dropWhile_cons, h2]
    simp only [if_true]
    rw [this.1, this.2]; exact ⟨rfl, rfl⟩
theorem hasS_mid (s t : Str) : hasS (s ++ 47 :: t) = true := by unfold hasS; simp
theorem split_has {s : Str} (h : hasS s = true) : s = preS s ++ 47 :: postS s ∧ ∀ c ∈ preS s, c ≠ 47 := by
  unfold preS postS
  induction s with
  | nil => simp [hasS] at h
  | cons c r ih =>
    by_cases hc : c = 47
    · subst hc; simp
    · have h2 : (c != 47) = true := by simpa using hc
      have h3 : hasS r = true := by
        unfold hasS at h ⊢
        rw [List.any_cons] at h
        have : (c == 47) = false := by simpa using hc
        rw [this, Bool.false_or] at h; exact h
      have ih' := ih h3
      rw [List.takeWhile_cons, List.dropWhile_cons, h2]
      simp only [if_true]
      refine ⟨by rw [List.cons_append, ← ih'.1], ?_⟩
      intro x hx
      rcases List.mem_cons.1 hx with rfl | hx
      · exact hc
      · exact ih'.2 x hx
theorem parts_ratS (n : Int) (d : Nat) : numT (ratS n d) = decI n ∧ denT (ratS n d) = dec d ∧ hasS (ratS n d) = !decide (d = 1) := by
  unfold ratS
  by_cases h : d = 1
  · subst h
    rw [if_pos rfl]
    have h1 := hasS_no (no_slash_decI n)
    unfold numT denT
    rw [h1]
    simp only [Bool.false_eq_true, if_false]
    exact ⟨trivial, (dec_lt (n := 1) (by omega)).symm, by simp⟩
  · rw [if_neg h]
    have h1 := hasS_mid (decI n) (dec d)
    have h2 := takeWhile_no (no_slash_decI n) (dec d)
    unfold numT denT preS postS
    rw [h1, if_pos rfl, if_pos rfl, h2.1, h2.2]
    exact ⟨rfl, rfl, by simp [h]⟩
/-- is a text that of a rational number in lowest terms -/
def rightQ (s : Str) : Bool := rightI (numT s) && decide ((mag (numT s)).length ≤ 4096) &&
  (!hasS s || (right (denT s) && decide ((denT s).length ≤ 4096) && !(denT s == [48]) && !(denT s == [49]) && !(numT s == [48]) && decide (Nat.gcd (val (mag (numT s))) (val (denT s)) = 1)))
theorem dec_eq_zero {n : Nat} : dec n = [48] ↔ n = 0 := ⟨fun h => dec_inj (h.trans dec_zero.symm), fun h => by rw [h]; exact dec_zero⟩
theorem dec_one : dec 1 = [49] := dec_lt (by omega)
theorem dec_eq_one {n : Nat} : dec n = [49] ↔ n = 1 := ⟨fun h => dec_inj (h.trans dec_one.symm), fun h => by rw [h]; exact dec_one⟩
theorem decI_eq_zero {n : Int} : decI n = [48] ↔ n = 0 := ⟨fun h => decI_inj (h.trans decI_zero.symm), fun h => by rw [h]; exact decI_zero⟩
theorem rightQ_ratS {n : Int} {d : Nat} (hd : 0 < d) (hg : Nat.gcd n.natAbs d = 1) (hn : dl n ≤ 4096) (hl : (dec d).length ≤ 4096) : rightQ (ratS n d) = true := by
  have h := parts_ratS n d
  unfold rightQ
  rw [h.1, h.2.1, h.2.2, rightI_decI, mag_decI, val_dec, val_dec, right_dec]
  have hn' : (dec n.natAbs).length ≤ 4096 := hn
  by_cases h1 : d = 1
  · simp [h1, hn']
  · have h2 : (dec d == [48]) = false := by
      have : dec d ≠ [48] := fun e => by have := dec_eq_zero.1 e; omega
      simpa using this
    have h3 : (dec d == [49]) = false := by
      have : dec d ≠ [49] := fun e => h1 (dec_eq_one.1 e)
      simpa using this
    have h4 : (decI n == [48]) = false := by
      have : decI n ≠ [48] := fun e => by
        have := decI_eq_zero.1 e
        rw [this] at hg
        simp at hg; exact h1 hg
      simpa using this
    simp [h1, hn', hl, h2, h3, h4]; exact hg
theorem rightQ_out {s : Str} (h : rightQ s = true) : ∃ (n : Int) (d : Nat), 0 < d ∧ Nat.gcd n.natAbs d = 1 ∧ dl n ≤ 4096 ∧ (dec d).length ≤ 4096 ∧ s = ratS n d := by
  unfold rightQ at h
  simp only [Bool.and_eq_true, decide_eq_true_eq, Bool.or_eq_true, Bool.not_eq_true'] at h
  obtain ⟨⟨h1, h2⟩, h3⟩ := h
  have hdl : dl (valI (numT s)) ≤ 4096 := by
    unfold dl; rw [abs_valI, ← dec_mag h1]; exact h2
  rcases h3 with h3 | ⟨⟨⟨⟨⟨h3, h4⟩, h5⟩, h6⟩, h7⟩, h8⟩
  · refine ⟨valI (numT s), 1, by omega, Nat.gcd_one_right _, hdl, by rw [dec_one]; decide, ?_⟩
    unfold ratS
    rw [if_pos rfl, decI_valI h1]
    unfold numT; rw [h3]; rfl
  · have hv : dec (val (denT s)) = denT s := dec_val h3
    have hd0 : val (denT s) ≠ 0 := by
      intro e
      rw [e, dec_zero] at hv
      rw [← hv] at h5; simp at h5
    have hd1 : val (denT s) ≠ 1 := by
      intro e
      rw [e, dec_one] at hv
      rw [← hv] at h6; simp at h6
    refine ⟨valI (numT s), val (denT s), by omega, by rw [abs_valI]; exact h8, hdl, by rw [hv]; exact h4, ?_⟩
    unfold ratS
    rw [if_neg hd1, decI_valI h1, hv]
    by_cases hs : hasS s = true
    · have := (split_has hs).1
      unfold numT denT
      rw [if_pos hs, if_pos hs]; exact this
    · have : denT s = [49] := if_neg hs
      rw [this] at h6; simp at h6
/-- n over m in lowest terms -/
def lowS (n : Int) (m : Nat) : Str := ratS (n / (Nat.gcd n.natAbs m : Nat)) (m / Nat.gcd n.natAbs m)
theorem low_parts (n : Int) {m : Nat} (hm : 0 < m) : ∃ (a : Int) (b g : Nat), 0 < b ∧ 0 < g ∧ Nat.gcd a.natAbs b = 1 ∧ n = a * g ∧ m = b * g ∧ lowS n m = ratS a b ∧ a.natAbs ≤ n.natAbs ∧ b ≤ m := by
  have hg : 0 < Nat.gcd n.natAbs m := Nat.gcd_pos_of_pos_right _ hm
  obtain ⟨b, hb⟩ := Nat.gcd_dvd_right n.natAbs m
  obtain ⟨c, hc⟩ := Nat.gcd_dvd_left n.natAbs m
  generalize hgg : Nat.gcd n.natAbs m = g at *
  have hdv : (g : Int) ∣ n := Int.ofNat_dvd_left.2 ⟨c, hc⟩
  obtain ⟨a, ha⟩ := hdv
  have ha2 : n / (g : Int) = a := by rw [ha]; exact Int.mul_ediv_cancel_left _ (by omega)
  have hb2 : m / g = b := by rw [hb]; exact Nat.mul_div_cancel_left _ hg
  have hac : a.natAbs = c := by
    have h1 := congrArg Int.natAbs ha
    rw [Int.natAbs_mul, Int.natAbs_natCast, hc] at h1
    exact (Nat.eq_of_mul_eq_mul_left hg h1).symm
  have hb0 : 0 < b := by
    rcases Nat.eq_zero_or_pos b with h | h
    · rw [h, Nat.mul_zero] at hb; omega
    · exact h
  have hcop : Nat.gcd a.natAbs b = 1 := by
    have h1 : Nat.gcd (g * c) (g * b) = g * Nat.gcd c b := Nat.gcd_mul_left g c b
    rw [← hc, ← hb, hgg] at h1
    rw [hac]
    have h2 : g * 1 = g * Nat.gcd c b := by rw [Nat.mul_one]; exact h1
    exact (Nat.eq_of_mul_eq_mul_left hg h2).symm
  refine ⟨a, b, g, hb0, hg, hcop, by rw [ha, Int.mul_comm], by rw [hb, Nat.mul_comm], ?_, ?_, ?_⟩
  · unfold lowS; rw [hgg, ha2, hb2]
  · rw [hac, hc]; exact Nat.le_mul_of_pos_left _ hg
  · rw [hb]; exact Nat.le_mul_of_pos_left _ hg
theorem low_red {n : Int} {d : Nat} (hg : Nat.gcd n.natAbs d = 1) : lowS n d = ratS n d := by
  unfold lowS; rw [hg]; simp
/-- two reduced fractions of one value are one -/
theorem red_unique {a c : Int} {b d : Nat} (hb : 0 < b) (hd : 0 < d) (h1 : Nat.gcd a.natAbs b = 1) (h2 : Nat.gcd c.natAbs d = 1) (h : a * d = c * b) : a = c ∧ b = d := by
  have hn : a.natAbs * d = c.natAbs * b := by
    have := congrArg Int.natAbs h
    rwa [Int.natAbs_mul, Int.natAbs_mul, Int.natAbs_natCast, Int.natAbs_natCast] at this
  have hbd : b ∣ d := by
    have h3 : b ∣ a.natAbs * d := ⟨c.natAbs, by rw [hn, Nat.mul_comm]⟩
    exact Nat.Coprime.dvd_of_dvd_mul_left (Nat.coprime_comm.1 h1) h3
  have hdb : d ∣ b := by
    have h3 : d ∣ c.natAbs * b := ⟨a.natAbs, by rw [← hn, Nat.mul_comm]⟩
    exact Nat.Coprime.dvd_of_dvd_mul_left (Nat.coprime_comm.1 h2) h3
  have e : b = d := Nat.dvd_antisymm hbd hdb
  subst e
  exact ⟨Int.eq_of_mul_eq_mul_right (by omega) h, rfl⟩
theorem lowS_eq {n n' : Int} {m m' : Nat} (hm : 0 < m) (hm' : 0 < m') (h : n * m' = n' * m) : lowS n m = lowS n' m' := by
  obtain ⟨a, b, g, hb, hg, hc, e1, e2, e3, _, _⟩ := low_parts n hm
  obtain ⟨a', b', g', hb', hg', hc', e1', e2', e3', _, _⟩ := low_parts n' hm'
  rw [e3, e3']
  have hx : a * b' = a' * b := by
    subst e1 e1' e2 e2'
    have h2 : (a * b') * ((g : Int) * g') = (a' * b) * ((g : Int) * g') := by
      simp only [Int.natCast_mul] at h
      grind
    exact Int.eq_of_mul_eq_mul_right (by
      have : 0 < (g : Int) * g' := Int.mul_pos (by omega) (by omega)
      omega) h2
  have := red_unique hb hb' hc hc' hx
  rw [this.1, this.2]
end Num
end Go.Proofs.YtmppmdmekomjbaaGreatDoor

/- Plain arithmetic of decimal texts and of limbs in base 10^9. No program in sight. -/
namespace Go.Proofs.YtkggdkkfdbbglaaDoor
namespace Num

abbrev Str := List UInt8
def isDig (c : UInt8) : Bool := decide (48 ≤ c.toNat) && decide (c.toNat ≤ 57)
def right (l : Str) : Bool := !l.isEmpty && (!(l.head? == some 48) || l == [48]) && l.all isDig
def dv (c : UInt8) : Nat := c.toNat - 48
def val (l : Str) : Nat := l.foldl (fun a c => 10 * a + dv c) 0
def dch (d : Nat) : UInt8 := UInt8.ofNat (48 + d)
def dec (n : Nat) : Str := if _h : n < 10 then [dch n] else dec (n / 10) ++ [dch (n % 10)]
termination_by n
decreasing_by omega
/-- exactly k digits -/
def digs : Nat → Nat → Str
  | 0, _ => []
  | k + 1, m => digs k (m / 10) ++ [dch (m % 10)]

theorem dch_toNat {d : Nat} (h : d < 10) : (dch d).toNat = 48 + d := by
  unfold dch; rw [UInt8.toNat_ofNat']; omega
theorem dv_dch {d : Nat} (h : d < 10) : dv (dch d) = d := by unfold dv; rw [dch_toNat h]; omega
theorem isDig_dch {d : Nat} (h : d < 10) : isDig (dch d) = true := by unfold isDig; rw [dch_toNat h]; simp; omega
theorem dch_dv {c : UInt8} (h : isDig c = true) : dch (dv c) = c := by
  unfold isDig at h; simp at h
  apply UInt8.toNat_inj.1
  rw [dch_toNat (by unfold dv; omega)]; unfold dv; omega
theorem dv_lt {c : UInt8} (h : isDig c = true) : dv c < 10 := by
  unfold isDig at h; simp at h; unfold dv; omega
theorem dch_zero : dch 0 = 48 := rfl
theorem dch_eq_48 {d : Nat} (h : d < 10) : dch d = 48 ↔ d = 0 := by
  constructor
  · intro e; have := dch_toNat h; rw [e] at this; simp at this; omega
  · rintro rfl; rfl

theorem foldl_val (l : Str) : ∀ a, l.foldl (fun a c => 10 * a + dv c) a = a * 10 ^ l.length + val l := by
  induction l with
  | nil => intro a; simp [val]
  | cons c t ih =>
    intro a
    have e : val (c :: t) = (10 * 0 + dv c) * 10 ^ t.length + val t := by rw [← ih]; rfl
    rw [List.foldl_cons, ih, e, List.length_cons, Nat.pow_succ]
    simp only [Nat.add_mul, Nat.mul_zero, Nat.zero_add]
    rw [show 10 * a * 10 ^ t.length = a * (10 ^ t.length * 10) from by rw [Nat.mul_comm 10 a, Nat.mul_assoc, Nat.mul_comm 10]]
    omega
theorem val_nil : val [] = 0 := rfl
theorem val_append (a b : Str) : val (a ++ b) = val a * 10 ^ b.length + val b := by
  unfold val; rw [List.foldl_append, foldl_val]; rfl
theorem val_cons (c : UInt8) (t : Str) : val (c :: t) = dv c * 10 ^ t.length + val t := by
  rw [show c :: t = [c] ++ t from rfl, val_append]; simp [val]
theorem val_snoc (a : Str) (c : UInt8) : val (a ++ [c]) = 10 * val a + dv c := by
  rw [val_append]; simp [val]; omega
theorem val_one (c : UInt8) : val [c] = dv c := by simp [val]
theorem val_lt (l : Str) (h : l.all isDig = true) : val l < 10 ^ l.length := by
  induction l with
  | nil => simp [val]
  | cons c t ih =>
    simp at h
    rw [val_cons, List.length_cons, Nat.pow_succ]
    have h1 := dv_lt h.1
    have h2 := ih (by simpa using h.2)
    have : (dv c + 1) * 10 ^ t.length ≤ 10 * 10 ^ t.length := Nat.mul_le_mul_right _ (by omega)
    rw [Nat.add_mul] at this
    omega

theorem dec_lt {n : Nat} (h : n < 10) : dec n = [dch n] := by rw [dec]; simp [h]
theorem dec_ge {n : Nat} (h : ¬ n < 10) : dec n = dec (n / 10) ++ [dch (n % 10)] := by rw [dec]; simp [h]
theorem dec_zero : dec 0 = [48] := dec_lt (by omega)
theorem dec_ne_nil (n : Nat) : dec n ≠ [] := by
  by_cases h : n < 10
  · rw [dec_lt h]; simp
  · rw [dec_ge h]; simp
theorem dec_all (n : Nat) : (dec n).all isDig = true := by
  induction n using Nat.strongRecOn with
  | _ n ih =>
    by_cases h : n < 10
    · rw [dec_lt h]; simp [isDig_dch h]
    · rw [dec_ge h, List.all_append, ih _ (by omega)]; simp [isDig_dch (show n % 10 < 10 by omega)]
theorem val_dec (n : Nat) : val (dec n) = n := by
  induction n using Nat.strongRecOn with
  | _ n ih =>
    by_cases h : n < 10
    · rw [dec_lt h, val_one, dv_dch h]
    · rw [dec_ge h, val_snoc, ih _ (by omega), dv_dch (by omega)]; omega
theorem dec_head (n : Nat) (h : 0 < n) : (dec n).head? ≠ some 48 := by
  induction n using Nat.strongRecOn with
  | _ n ih =>
    by_cases h1 : n < 10
    · rw [dec_lt h1]; simp [dch_eq_48 h1]; omega
    · rw [dec_ge h1]
      have := ih (n / 10) (by omega) (by omega)
      rw [List.head?_append]
      cases hd : (dec (n / 10)).head? with
      | none => exact absurd (List.head?_eq_none_iff.1 hd) (dec_ne_nil _)
      | some c => simpa [hd] using this
theorem dec_inj {m n : Nat} (h : dec m = dec n) : m = n := by rw [← val_dec m, h, val_dec]
theorem right_dec (n : Nat) : right (dec n) = true := by
  unfold right
  rw [dec_all]
  have h1 : (dec n).isEmpty = false := by simpa using dec_ne_nil n
  rw [h1]
  by_cases h : n = 0
  · subst h; rw [dec_zero]; rfl
  · have := dec_head n (by omega)
    simp [this]
theorem right_all {l : Str} (h : right l = true) : l.all isDig = true := by unfold right at h; simp only [Bool.and_eq_true] at h; exact h.2
theorem right_ne {l : Str} (h : right l = true) : l ≠ [] := by unfold right at h; intro e; subst e; simp at h
theorem right_head {l : Str} (h : right l = true) : l.head? = some 48 → l = [48] := by
  unfold right at h; intro e; simp [e] at h; exact h.1.2

theorem val_pos_of_head {c : UInt8} {t : Str} (hd : isDig c = true) (h : c ≠ 48) : 10 ^ t.length ≤ val (c :: t) := by
  rw [val_cons]
  have : 0 < dv c := by
    unfold isDig at hd; simp at hd; unfold dv
    have : c.toNat ≠ 48 := fun e => h (UInt8.toNat_inj.1 (by simpa using e))
    omega
  have := Nat.mul_le_mul_right (10 ^ t.length) (show 1 ≤ dv c by omega)
  omega

theorem dec_val_snoc (a : Str) (c : UInt8) (hv : 0 < val a) (hc : isDig c = true) (ih : dec (val a) = a) : dec (val (a ++ [c])) = a ++ [c] := by
  have h1 := dv_lt hc
  rw [val_snoc, dec_ge (by omega), show (10 * val a + dv c) / 10 = val a by omega, show (10 * val a + dv c) % 10 = dv c by omega, ih, dch_dv hc]

theorem dec_val_aux : ∀ (n : Nat) (l : Str), l.length = n → l ≠ [] → l.all isDig = true → l.head? ≠ some 48 → dec (val l) = l := by
  intro n
  induction n with
  | zero => intro l h h1; exact absurd (List.eq_nil_of_length_eq_zero h) h1
  | succ n ih =>
    intro l hl hne hall hh
    rcases List.eq_nil_or_concat l with rfl | ⟨a, c, rfl⟩
    · exact absurd rfl hne
    · rw [List.concat_eq_append] at *
      simp only [List.all_append, Bool.and_eq_true, List.all_cons, List.all_nil, Bool.and_true] at hall
      by_cases ha : a = []
      · subst ha; simp only [List.nil_append]; rw [val_one, dec_lt (dv_lt hall.2), dch_dv hall.2]
      · have hha : a.head? ≠ some 48 := by
          cases a with
          | nil => exact absurd rfl ha
          | cons x y => simpa using hh
        have ih' := ih a (by simpa using hl) ha hall.1 hha
        refine dec_val_snoc a c ?_ hall.2 ih'
        cases a with
        | nil => exact absurd rfl ha
        | cons x y =>
          have := val_pos_of_head (c := x) (t := y) (by have := hall.1; simp at this; exact this.1) (by simpa using hha)
          have := Nat.pow_pos (n := y.length) (show 0 < 10 by omega)
          omega
theorem dec_val {l : Str} (h : right l = true) : dec (val l) = l := by
  by_cases h0 : l.head? = some 48
  · rw [right_head h h0]; exact dec_zero
  · exact dec_val_aux _ l rfl (right_ne h) (right_all h) h0
theorem right_iff (l : Str) : right l = true ↔ ∃ n, l = dec n :=
  ⟨fun h => ⟨val l, (dec_val h).symm⟩, fun ⟨n, e⟩ => e ▸ right_dec n⟩

theorem length_dec_le {n k : Nat} (hk : 0 < k) : (dec n).length ≤ k ↔ n < 10 ^ k := by
  induction k generalizing n with
  | zero => omega
  | succ k ih =>
    by_cases h : n < 10
    · rw [dec_lt h]; simp
      have : 10 ^ 1 ≤ 10 ^ (k + 1) := Nat.pow_le_pow_right (by omega) (by omega)
      omega
    · rw [dec_ge h, List.length_append, List.length_cons, List.length_nil]
      by_cases hk0 : k = 0
      · subst hk0
        have h1 : 0 < (dec (n / 10)).length := List.length_pos_iff.2 (dec_ne_nil _)
        omega
      · have := @ih (n / 10) (by omega)
        rw [Nat.pow_succ]
        constructor
        · intro h2; have := this.1 (by omega); omega
        · intro h2; have := this.2 (by omega); omega
theorem length_dec_pos (n : Nat) : 0 < (dec n).length := List.length_pos_iff.2 (dec_ne_nil _)
theorem length_dec_mono {m n : Nat} (h : m ≤ n) : (dec m).length ≤ (dec n).length :=
  (length_dec_le (length_dec_pos n)).2 (Nat.lt_of_le_of_lt h ((length_dec_le (length_dec_pos n)).1 (Nat.le_refl _)))
theorem val_lt_len {l : Str} (h : right l = true) : val l < 10 ^ l.length := val_lt l (right_all h)

theorem digs_length (k m : Nat) : (digs k m).length = k := by
  induction k generalizing m with
  | zero => rfl
  | succ k ih => simp [digs, ih]
theorem dec_mul_add (k n m : Nat) (hn : 0 < n) (hm : m < 10 ^ k) : dec (n * 10 ^ k + m) = dec n ++ digs k m := by
  induction k generalizing m with
  | zero => simp [digs]; rw [Nat.pow_zero] at hm; congr 1; omega
  | succ k ih =>
    have h1 : m / 10 < 10 ^ k := by rw [Nat.pow_succ] at hm; omega
    have h2 : n * 10 ^ (k + 1) = 10 * (n * 10 ^ k) := by rw [Nat.pow_succ, ← Nat.mul_assoc, Nat.mul_comm]
    have h3 : 1 ≤ n * 10 ^ k := Nat.mul_pos hn (Nat.pow_pos (by omega))
    rw [dec_ge (by omega), h2, show (10 * (n * 10 ^ k) + m) / 10 = n * 10 ^ k + m / 10 by omega, show (10 * (n * 10 ^ k) + m) % 10 = m % 10 by omega, ih _ h1, digs, List.append_assoc]
theorem digs_zero (k : Nat) : digs k 0 = List.replicate k 48 := by
  induction k with
  | zero => rfl
  | succ k ih => rw [digs, Nat.zero_div, ih, List.replicate_succ', show dch (0 % 10) = 48 from rfl]
theorem digs_pad (k m : Nat) (hk : 0 < k) (hm : m < 10 ^ k) : digs k m = List.replicate (k - (dec m).length) 48 ++ dec m := by
  induction k generalizing m with
  | zero => omega
  | succ k ih =>
    by_cases h : m < 10
    · rw [digs, show m / 10 = 0 by omega, digs_zero, dec_lt h, show m % 10 = m by omega]; simp
    · rw [digs, dec_ge h]
      by_cases hk0 : k = 0
      · subst hk0; simp at hm; omega
      · rw [ih (m / 10) (by omega) (by rw [Nat.pow_succ] at hm; omega)]
        simp [List.append_assoc]

/-- compare two numbers -/
def cmpN (a b : Nat) : Int := if a < b then -1 else if a = b then 0 else 1


/-! ### limbs, the least first -/
def lv : List Nat → Nat
  | [] => 0
  | x :: t => x + 1000000000 * lv t
def nl (n : Nat) : List Nat := if _h : n = 0 then [] else n % 1000000000 :: nl (n / 1000000000)
termination_by n
decreasing_by omega
def limbs (xs : List Nat) : Prop := ∀ x ∈ xs, x < 1000000000
theorem nl_zero : nl 0 = [] := by rw [nl]; simp
theorem nl_pos {n : Nat} (h : n ≠ 0) : nl n = n % 1000000000 :: nl (n / 1000000000) := by rw [nl]; simp [h]
theorem lv_nl (n : Nat) : lv (nl n) = n := by
  induction n using Nat.strongRecOn with
  | _ n ih =>
    by_cases h : n = 0
    · subst h; rw [nl_zero]; rfl
    · rw [nl_pos h, lv, ih _ (by omega)]; omega
theorem limbs_nl (n : Nat) : limbs (nl n) := by
  induction n using Nat.strongRecOn with
  | _ n ih =>
    by_cases h : n = 0
    · subst h; rw [nl_zero]; intro x hx; cases hx
    · rw [nl_pos h]; intro x hx
      rcases List.mem_cons.1 hx with rfl | hx
      · omega
      · exact ih _ (by omega) x hx
theorem nl_inj {m n : Nat} (h : nl m = nl n) : m = n := by rw [← lv_nl m, h, lv_nl]
theorem nl_eq_nil {n : Nat} : nl n = [] ↔ n = 0 := by
  constructor
  · intro h; rw [← lv_nl n, h]; rfl
  · rintro rfl; exact nl_zero
theorem nl_cons (x n : Nat) (hx : x < 1000000000) (h : x ≠ 0 ∨ n ≠ 0) : nl (x + 1000000000 * n) = x :: nl n := by
  rw [nl_pos (by omega), show (x + 1000000000 * n) % 1000000000 = x by omega, show (x + 1000000000 * n) / 1000000000 = n by omega]
theorem lv_append (a b : List Nat) : lv (a ++ b) = lv a + 1000000000 ^ a.length * lv b := by
  induction a with
  | nil => simp [lv]
  | cons x t ih =>
    rw [List.cons_append, lv, ih, lv, List.length_cons, Nat.pow_succ, Nat.mul_add, ← Nat.mul_assoc, Nat.mul_comm (1000000000 ^ t.length)]
    omega
theorem lv_lt (xs : List Nat) (h : limbs xs) : lv xs < 1000000000 ^ xs.length := by
  induction xs with
  | nil => simp [lv]
  | cons x t ih =>
    have h1 := h x (by simp)
    have h2 := ih (fun y hy => h y (by simp [hy]))
    rw [lv, List.length_cons, Nat.pow_succ]
    omega
/-- a list of limbs whose last is not 0 is the canonical one -/
theorem nl_lv (xs : List Nat) (h : limbs xs) (hl : xs.getLast? ≠ some 0) : nl (lv xs) = xs := by
  induction xs with
  | nil => rw [lv, nl_zero]
  | cons x t ih =>
    have h1 := h x (by simp)
    have h2 : limbs t := fun y hy => h y (by simp [hy])
    have h3 : t.getLast? ≠ some 0 := by
      cases t with
      | nil => simp
      | cons y u => simpa [List.getLast?_cons_cons] using hl
    have ih' := ih h2 h3
    have hx : x ≠ 0 ∨ lv t ≠ 0 := by
      cases t with
      | nil => left; simpa using hl
      | cons y u =>
        right; intro e
        rw [e, nl_zero] at ih'; cases ih'
    rw [lv, nl_cons x _ h1 hx, ih']
theorem nl_last (n : Nat) : (nl n).getLast? ≠ some 0 := by
  induction n using Nat.strongRecOn with
  | _ n ih =>
    by_cases h : n = 0
    · subst h; rw [nl_zero]; simp
    · rw [nl_pos h]
      by_cases h1 : n / 1000000000 = 0
      · rw [h1, nl_zero]; simp; omega
      · have := ih (n / 1000000000) (by omega)
        cases hn : nl (n / 1000000000) with
        | nil => exact absurd (nl_eq_nil.1 hn) h1
        | cons y u => rw [List.getLast?_cons_cons, ← hn]; exact this
theorem lv_snoc_zero (xs : List Nat) : lv (xs ++ [0]) = lv xs := by rw [lv_append]; simp [lv]
theorem limbs_nil : limbs [] := fun x hx => by cases hx
theorem limbs_append {a b : List Nat} : limbs (a ++ b) ↔ limbs a ∧ limbs b := by
  unfold limbs; constructor
  · intro h; exact ⟨fun x hx => h x (by simp [hx]), fun x hx => h x (by simp [hx])⟩
  · rintro ⟨h1, h2⟩ x hx
    rcases List.mem_append.1 hx with h | h
    · exact h1 x h
    · exact h2 x h
theorem nl_length_le {n k : Nat} : (nl n).length ≤ k ↔ n < 1000000000 ^ k := by
  induction k generalizing n with
  | zero => simp [nl_eq_nil]
  | succ k ih =>
    by_cases h : n = 0
    · subst h; rw [nl_zero]; simp; exact Nat.pow_pos (by omega)
    · rw [nl_pos h, List.length_cons, Nat.pow_succ]
      have := @ih (n / 1000000000)
      constructor
      · intro h1; have := this.1 (by omega); omega
      · intro h1; have := this.2 (by omega); omega
theorem nl_length_mono {m n : Nat} (h : m ≤ n) : (nl m).length ≤ (nl n).length :=
  nl_length_le.2 (Nat.lt_of_le_of_lt h (nl_length_le.1 (Nat.le_refl _)))
/-- the digits of a number out of its limbs -/
theorem dec_nl_cons (x n : Nat) (hx : x < 1000000000) (hn : n ≠ 0) : dec (x + 1000000000 * n) = dec n ++ digs 9 x := by
  rw [← dec_mul_add 9 n x (by omega) (by omega)]; congr 1; omega

end Num
end Go.Proofs.YtkggdkkfdbbglaaDoor

/- Plain arithmetic of the reference: digits from the right. -/
import Derived.Test.YtbjjbfefbkamoaaDoorRead
namespace Go.Proofs.YtbjjbfefbkamoaaDoor
open Num

/-- the digit of a number at an index, counted from the right -/
def dg (x i : Nat) : Nat := x / 10 ^ i % 10
theorem dg_lt (x i : Nat) : dg x i < 10 := Nat.mod_lt _ (by omega)
theorem dg_at {l : List UInt8} (h : l.all isDig = true) {i : Nat} (hi : i < l.length) : dv (at8 l (l.length - 1 - i)) = dg (val l) i := by
  obtain ⟨j, hj⟩ : ∃ j, j = l.length - 1 - i := ⟨_, rfl⟩
  have h1 := val_split l (j + 1) (by omega)
  have h2 : l.length - (j + 1) = i := by omega
  rw [h2] at h1
  have h3 : l.take (j + 1) = l.take j ++ [at8 l j] := by rw [List.take_succ_eq_append_getElem (by omega), at8_eq l j (by omega)]
  rw [h3, val_snoc] at h1
  have h4 : seg l (j + 1) l.length < 10 ^ i := by
    have := val_lt _ (all_sub h (j + 1) l.length)
    rwa [List.length_drop, List.length_take, Nat.min_self, h2] at this
  have h5 : dv (at8 l j) < 10 := by
    apply dv_lt
    have := dig_of_all h (k := j) (by omega)
    unfold isDig; simp; exact this
  rw [← hj, dg, h1, Nat.mul_comm _ (10 ^ i), Nat.mul_add_div (Nat.pow_pos (by omega)), Nat.div_eq_of_lt h4]
  omega
theorem dg_zero {x i : Nat} (h : x < 10 ^ i) : dg x i = 0 := by rw [dg, Nat.div_eq_of_lt h]
theorem mod_succ (x k : Nat) : x % 10 ^ (k + 1) = x % 10 ^ k + 10 ^ k * dg x k := by rw [Nat.pow_succ, Nat.mod_mul]; rfl
theorem digs_front (k d r : Nat) (hd : d < 10) (hr : r < 10 ^ k) : digs (k + 1) (d * 10 ^ k + r) = dch d :: digs k r := by
  induction k generalizing r with
  | zero =>
    rw [Nat.pow_zero] at hr
    have : r = 0 := by omega
    subst this
    simp [digs]; rw [Nat.mod_eq_of_lt hd]
  | succ k ih =>
    have e1 : ∀ m, digs (k + 1 + 1) m = digs (k + 1) (m / 10) ++ [dch (m % 10)] := fun _ => rfl
    have e2 : digs (k + 1) r = digs k (r / 10) ++ [dch (r % 10)] := rfl
    rw [e1, e2]
    have h1 : r / 10 < 10 ^ k := by rw [Nat.pow_succ] at hr; omega
    have h2 : d * 10 ^ (k + 1) = 10 * (d * 10 ^ k) := by rw [Nat.pow_succ, ← Nat.mul_assoc, Nat.mul_comm]
    rw [h2, show (10 * (d * 10 ^ k) + r) / 10 = d * 10 ^ k + r / 10 by omega, show (10 * (d * 10 ^ k) + r) % 10 = r % 10 by omega, ih _ h1]
    rfl
theorem digs_eq_dec {L s : Nat} (hL : 0 < L) (hs : s < 10 ^ L) (h : L = 1 ∨ 10 ^ (L - 1) ≤ s) : digs L s = dec s := by
  rw [digs_pad L s hL hs]
  have h1 : (dec s).length ≤ L := (length_dec_le hL).2 hs
  have h2 : L ≤ (dec s).length := by
    rcases h with h | h
    · have := length_dec_pos s; omega
    · rcases Nat.lt_or_ge (dec s).length L with h3 | h3
      · have := length_dec_pos s
        have := (length_dec_le (n := s) (k := L - 1) (by omega)).1 (by omega)
        omega
      · exact h3
  rw [show L - (dec s).length = 0 by omega]; rfl
theorem dec_carry {L c r : Nat} (hc : 0 < c) (hc9 : c < 10) (hr : r < 10 ^ L) : dch c :: digs L r = dec (c * 10 ^ L + r) := by
  rw [dec_mul_add L c r hc hr, dec_lt hc9]; rfl
theorem dec_len_ge (x : Nat) : (dec x).length = 1 ∨ 10 ^ ((dec x).length - 1) ≤ x := by
  rcases Nat.lt_or_ge 1 (dec x).length with h | h
  · right
    rcases Nat.lt_or_ge x (10 ^ ((dec x).length - 1)) with h1 | h1
    · have := (length_dec_le (n := x) (k := (dec x).length - 1) (by omega)).2 h1; omega
    · exact h1
  · left; have := length_dec_pos x; omega
theorem dec_lt_len (x : Nat) : x < 10 ^ (dec x).length := (length_dec_le (length_dec_pos x)).1 (Nat.le_refl _)

/-- the sum: what stands after k digits -/
def sumOut (x y k : Nat) : List UInt8 := digs k ((x % 10 ^ k + y % 10 ^ k) % 10 ^ k)
def sumCarry (x y k : Nat) : Nat := (x % 10 ^ k + y % 10 ^ k) / 10 ^ k
theorem sumCarry_le (x y k : Nat) : sumCarry x y k ≤ 1 := by
  have h := Nat.pow_pos (n := k) (show 0 < 10 by omega)
  have h1 := Nat.mod_lt x h
  have h2 := Nat.mod_lt y h
  have : sumCarry x y k < 2 := by unfold sumCarry; rw [Nat.div_lt_iff_lt_mul h]; omega
  omega
theorem sum_step (x y k : Nat) : sumOut x y (k + 1) = dch ((dg x k + dg y k + sumCarry x y k) % 10) :: sumOut x y k ∧ sumCarry x y (k + 1) = (dg x k + dg y k + sumCarry x y k) / 10 := by
  unfold sumOut sumCarry
  rw [mod_succ x, mod_succ y]
  generalize hX : x % 10 ^ k = X
  generalize hY : y % 10 ^ k = Y
  have h := Nat.pow_pos (n := k) (show 0 < 10 by omega)
  generalize dg x k = dx
  generalize dg y k = dy
  have e : X + 10 ^ k * dx + (Y + 10 ^ k * dy) = (X + Y) % 10 ^ k + 10 ^ k * (dx + dy + (X + Y) / 10 ^ k) := by
    have := Nat.div_add_mod (X + Y) (10 ^ k)
    rw [Nat.mul_add, Nat.mul_add]; omega
  rw [e]
  generalize hn : dx + dy + (X + Y) / 10 ^ k = n
  have hm := Nat.mod_lt (X + Y) h
  generalize (X + Y) % 10 ^ k = m at *
  have e2 : m + 10 ^ k * n = (n / 10) * 10 ^ (k + 1) + ((n % 10) * 10 ^ k + m) := by
    have h3 : 10 ^ k * n = 10 ^ k * (10 * (n / 10) + n % 10) := by congr 1; omega
    rw [h3, Nat.mul_add, Nat.pow_succ, ← Nat.mul_assoc, Nat.mul_comm (n / 10), Nat.mul_comm (n % 10)]; omega
  have hlt : (n % 10) * 10 ^ k + m < 10 ^ (k + 1) := by
    have := Nat.mul_le_mul_right (10 ^ k) (show n % 10 + 1 ≤ 10 by omega)
    rw [Nat.add_mul] at this
    rw [Nat.pow_succ]; omega
  rw [e2]
  constructor
  · rw [Nat.mul_comm, Nat.mul_add_mod, Nat.mod_eq_of_lt hlt, digs_front k _ _ (by omega) hm]
  · rw [Nat.mul_comm, Nat.mul_add_div (Nat.pow_pos (by omega)), Nat.div_eq_of_lt hlt]; omega
theorem sum_zero (x y : Nat) : sumOut x y 0 = [] ∧ sumCarry x y 0 = 0 := by
  unfold sumOut sumCarry; simp [digs, Nat.mod_one]
theorem sum_end (x y : Nat) : (if 0 < sumCarry x y (max (dec x).length (dec y).length) then dch (sumCarry x y (max (dec x).length (dec y).length)) :: sumOut x y (max (dec x).length (dec y).length) else sumOut x y (max (dec x).length (dec y).length)) = dec (x + y) := by
  generalize hL : max (dec x).length (dec y).length = L
  have h1 : x < 10 ^ L := Nat.lt_of_lt_of_le (dec_lt_len x) (Nat.pow_le_pow_right (by omega) (by omega))
  have h2 : y < 10 ^ L := Nat.lt_of_lt_of_le (dec_lt_len y) (Nat.pow_le_pow_right (by omega) (by omega))
  have hc := sumCarry_le x y L
  have hpos := length_dec_pos x
  unfold sumOut
  unfold sumCarry at *
  rw [Nat.mod_eq_of_lt h1, Nat.mod_eq_of_lt h2] at *
  have h := Nat.pow_pos (n := L) (show 0 < 10 by omega)
  have hd := Nat.div_add_mod (x + y) (10 ^ L)
  have hm := Nat.mod_lt (x + y) h
  generalize (x + y) / 10 ^ L = cy at *
  by_cases hcp : 0 < cy
  · rw [if_pos hcp, dec_carry hcp (by omega) hm, Nat.mul_comm, hd]
  · rw [if_neg hcp]
    have h0 : cy = 0 := by omega
    rw [h0, Nat.mul_zero, Nat.zero_add] at hd
    rw [hd] at hm ⊢
    refine digs_eq_dec (by omega) (by omega) ?_
    rcases Nat.le_total (dec y).length (dec x).length with h9 | h9
    · have hLx : L = (dec x).length := by omega
      rw [hLx]
      rcases dec_len_ge x with h8 | h8
      · left; exact h8
      · right; omega
    · have hLy : L = (dec y).length := by omega
      rw [hLy]
      rcases dec_len_ge y with h8 | h8
      · left; exact h8
      · right; omega

/-- leading zeros struck -/
theorem val_drop_zero (l : List UInt8) : val (48 :: l) = val l := by rw [val_cons]; simp [dv]
/-- the difference: one round -/
theorem less_step (x y k t borrow d borrow' : Nat) (h : x % 10 ^ k + 10 ^ k * borrow = y % 10 ^ k + t) (hd : d + dg y k + borrow = dg x k + 10 * borrow') :
    x % 10 ^ (k + 1) + 10 ^ (k + 1) * borrow' = y % 10 ^ (k + 1) + (d * 10 ^ k + t) := by
  rw [mod_succ x, mod_succ y, Nat.pow_succ, Nat.mul_assoc]
  have := congrArg (10 ^ k * ·) hd
  simp only [Nat.mul_add] at this
  rw [Nat.mul_comm d]
  omega
theorem digs_lt_step (k d t : Nat) (hd : d < 10) (ht : t < 10 ^ k) : d * 10 ^ k + t < 10 ^ (k + 1) := by
  have := Nat.mul_le_mul_right (10 ^ k) (show d + 1 ≤ 10 by omega)
  rw [Nat.add_mul] at this
  rw [Nat.pow_succ]; omega
theorem val_digs (k m : Nat) (h : m < 10 ^ k) : val (digs k m) = m := by
  induction k generalizing m with
  | zero => rw [Nat.pow_zero] at h; have : m = 0 := by omega
            subst this; rfl
  | succ k ih =>
    rw [Nat.pow_succ] at h
    rw [digs, val_snoc, ih _ (by omega), dv_dch (by omega)]; omega
theorem digs_all (k m : Nat) : (digs k m).all isDig = true := by
  induction k generalizing m with
  | zero => rfl
  | succ k ih => rw [digs, List.all_append, ih]; simp [isDig_dch (show m % 10 < 10 by omega)]
end Go.Proofs.YtbjjbfefbkamoaaDoor

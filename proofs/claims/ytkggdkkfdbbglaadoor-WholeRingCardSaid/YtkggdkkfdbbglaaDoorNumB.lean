/- Plain arithmetic of limbs: steps of sums, differences, products. -/
import Derived.Test.YtkggdkkfdbbglaaDoorTrim
namespace Go.Proofs.YtkggdkkfdbbglaaDoor
open Num

theorem atN_lt {xs : List Nat} (h : limbs xs) (k : Nat) : atN xs k < 1000000000 := by
  unfold atN
  rw [List.getD_eq_getElem?_getD]
  cases hk : xs[k]? with
  | none => simp
  | some x => exact h x (List.mem_of_getElem? hk)
theorem atN_ge {xs : List Nat} {k : Nat} (h : xs.length ≤ k) : atN xs k = 0 := by
  unfold atN; rw [List.getD_eq_getElem?_getD, List.getElem?_eq_none h]; rfl
theorem lv_take_succ (xs : List Nat) (k : Nat) : lv (xs.take (k + 1)) = lv (xs.take k) + 1000000000 ^ k * atN xs k := by
  by_cases h : k < xs.length
  · rw [List.take_succ_eq_append_getElem h, lv_append, List.length_take, Nat.min_eq_left (by omega)]
    simp [lv, atN, h]
  · rw [List.take_of_length_le (by omega), List.take_of_length_le (by omega), atN_ge (by omega)]; simp
theorem lv_snoc (ys : List Nat) (x : Nat) : lv (ys ++ [x]) = lv ys + 1000000000 ^ ys.length * x := by
  rw [lv_append]; simp [lv]
theorem limbs_snoc {ys : List Nat} {x : Nat} (h : limbs ys) (hx : x < 1000000000) : limbs (ys ++ [x]) :=
  limbs_append.2 ⟨h, fun y hy => by simp at hy; rw [hy]; exact hx⟩
theorem nums_snoc (ys : List Nat) (x : Nat) : nums (ys ++ [x]) = nums ys ++ [.int .i64 (x : Int)] := by simp [nums]

/-- product with one limb: one round -/
theorem times_step (xs ys : List Nat) (k m carry : Nat) (hy : ys.length = k) (h : lv ys + 1000000000 ^ k * carry = lv (xs.take k) * m) :
    lv (ys ++ [(atN xs k * m + carry) % 1000000000]) + 1000000000 ^ (k + 1) * ((atN xs k * m + carry) / 1000000000) = lv (xs.take (k + 1)) * m := by
  rw [lv_snoc, hy, lv_take_succ, Nat.add_mul, ← h, Nat.pow_succ]
  generalize hn : atN xs k * m + carry = n
  have : 1000000000 ^ k * (n % 1000000000) + 1000000000 ^ k * 1000000000 * (n / 1000000000) = 1000000000 ^ k * n := by
    rw [Nat.mul_assoc, ← Nat.mul_add]; congr 1; omega
  rw [Nat.add_assoc, this, ← hn, Nat.mul_add, Nat.mul_assoc]
  omega
theorem carry_lt (x m carry : Nat) (hx : x < 1000000000) (hm : m < 1000000000) (hc : carry < 1000000000) : x * m + carry ≤ 999999999000000000 ∧ (x * m + carry) / 1000000000 < 1000000000 := by
  have : x * m ≤ 999999999 * 999999999 := Nat.mul_le_mul (by omega) (by omega)
  omega
/-- a list that is as long as its value needs is canonical -/
theorem nl_of_len (ys : List Nat) (hy : limbs ys) (h : ys.length ≤ (nl (lv ys)).length) : nl (lv ys) = ys := by
  have := take_nl ys hy
  rw [← this, List.take_of_length_le h]
theorem nl_len_ge {n k : Nat} (h : 1000000000 ^ k ≤ n) : k + 1 ≤ (nl n).length := by
  rcases Nat.lt_or_ge k (nl n).length with h1 | h1
  · exact h1
  · have := nl_length_le.1 h1; omega
theorem pow_le_of_len {n : Nat} (h : 0 < (nl n).length) : 1000000000 ^ ((nl n).length - 1) ≤ n := by
  rcases Nat.lt_or_ge n (1000000000 ^ ((nl n).length - 1)) with h1 | h1
  · have := nl_length_le.2 h1; omega
  · exact h1
/-- sum: one round -/
theorem add_step (xs ys zs : List Nat) (k carry : Nat) (hz : zs.length = k) (h : lv zs + 1000000000 ^ k * carry = lv (xs.take k) + lv (ys.take k)) :
    lv (zs ++ [(atN xs k + atN ys k + carry) % 1000000000]) + 1000000000 ^ (k + 1) * ((atN xs k + atN ys k + carry) / 1000000000) = lv (xs.take (k + 1)) + lv (ys.take (k + 1)) := by
  rw [lv_snoc, hz, lv_take_succ, lv_take_succ, Nat.pow_succ]
  generalize hn : atN xs k + atN ys k + carry = n
  have : 1000000000 ^ k * (n % 1000000000) + 1000000000 ^ k * 1000000000 * (n / 1000000000) = 1000000000 ^ k * n := by
    rw [Nat.mul_assoc, ← Nat.mul_add]; congr 1; omega
  rw [Nat.add_assoc, this, ← hn, Nat.mul_add, Nat.mul_add]
  omega
/-- difference: one round -/
theorem sub_step (xs ys zs : List Nat) (k borrow d borrow' : Nat) (hz : zs.length = k) (h : lv zs + lv (ys.take k) = lv (xs.take k) + 1000000000 ^ k * borrow)
    (hd : d + atN ys k + borrow = atN xs k + 1000000000 * borrow') :
    lv (zs ++ [d]) + lv (ys.take (k + 1)) = lv (xs.take (k + 1)) + 1000000000 ^ (k + 1) * borrow' := by
  rw [lv_snoc, hz, lv_take_succ, lv_take_succ, Nat.pow_succ, Nat.mul_assoc]
  have := congrArg (1000000000 ^ k * ·) hd
  simp only [Nat.mul_add] at this
  omega
/-- a store -/
theorem lv_set (zs : List Nat) (j u : Nat) (hj : j < zs.length) : lv (zs.set j u) + 1000000000 ^ j * atN zs j = lv zs + 1000000000 ^ j * u := by
  have h1 := lv_append (zs.take j) (zs.drop j)
  rw [List.take_append_drop, List.length_take, Nat.min_eq_left (by omega), List.drop_eq_getElem_cons hj, lv] at h1
  rw [List.set_eq_take_append_cons_drop, if_pos hj, lv_append, List.length_take, Nat.min_eq_left (by omega), lv, h1]
  have : atN zs j = zs[j] := by simp [atN, hj]
  rw [this]
  simp only [Nat.mul_add]
  omega
theorem limbs_set {zs : List Nat} {j u : Nat} (h : limbs zs) (hu : u < 1000000000) : limbs (zs.set j u) := by
  intro x hx
  rcases List.mem_or_eq_of_mem_set hx with h1 | h1
  · exact h x h1
  · omega
theorem atN_set (zs : List Nat) (j u i : Nat) (hj : j < zs.length) : atN (zs.set j u) i = if i = j then u else atN zs i := by
  unfold atN
  simp only [List.getD_eq_getElem?_getD, List.getElem?_set]
  by_cases h : j = i
  · subst h; simp [hj]
  · rw [if_neg h, if_neg (fun e => h e.symm)]
theorem nums_set (zs : List Nat) (j u : Nat) : nums (zs.set j u) = (nums zs).set j (.int .i64 (u : Int)) := by simp [nums, List.map_set]
theorem lv_replicate (n : Nat) : lv (List.replicate n 0) = 0 := by
  induction n with
  | zero => rfl
  | succ n ih => rw [List.replicate_succ, lv, ih]
theorem limbs_replicate (n : Nat) : limbs (List.replicate n 0) := fun x hx => by rw [List.eq_of_mem_replicate hx]; decide
theorem nums_replicate (n : Nat) : nums (List.replicate n 0) = List.replicate n (.int .i64 0) := by simp [nums]
theorem atN_replicate (n j : Nat) : atN (List.replicate n 0) j = 0 := by
  unfold atN; rw [List.getD_eq_getElem?_getD, List.getElem?_replicate]; split <;> rfl
end Go.Proofs.YtkggdkkfdbbglaaDoor

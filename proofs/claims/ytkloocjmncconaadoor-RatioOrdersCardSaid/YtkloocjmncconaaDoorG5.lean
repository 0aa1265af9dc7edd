/- Digits in base 10, the least first: plain. (Printed from the limbs' theory.) -/
import Derived.Test.YtkloocjmncconaaDoorG4
import Derived.Test.YtkloocjmncconaaDoorG1
import Derived.Test.YtkloocjmncconaaDoorG2
import Derived.Test.YtkloocjmncconaaDoorG3
import Derived.Deep.QuietTactic
import Derived.BigQuiet
namespace Go.Proofs.YtkloocjmncconaaDoor
namespace Num
/-! ### digl, the least first -/
def lw : List Nat → Nat
  | [] => 0
  | x :: t => x + 10 * lw t
def ns (n : Nat) : List Nat := if _h : n = 0 then [] else n % 10 :: ns (n / 10)
termination_by n
decreasing_by omega
def digl (xs : List Nat) : Prop := ∀ x ∈ xs, x < 10
theorem ns_zero : ns 0 = [] := by rw [ns]; simp
theorem ns_pos {n : Nat} (h : n ≠ 0) : ns n = n % 10 :: ns (n / 10) := by rw [ns]; simp [h]
theorem lw_ns (n : Nat) : lw (ns n) = n := by
  induction n using Nat.strongRecOn with
  | _ n ih =>
    by_cases h : n = 0
    · subst h; rw [ns_zero]; rfl
    · rw [ns_pos h, lw, ih _ (by omega)]; omega
theorem digl_ns (n : Nat) : digl (ns n) := by
  induction n using Nat.strongRecOn with
  | _ n ih =>
    by_cases h : n = 0
    · subst h; rw [ns_zero]; intro x hx; cases hx
    · rw [ns_pos h]; intro x hx
      rcases List.mem_cons.1 hx with rfl | hx
      · omega
      · exact ih _ (by omega) x hx
theorem ns_inj {m n : Nat} (h : ns m = ns n) : m = n := by rw [← lw_ns m, h, lw_ns]
theorem ns_eq_nil {n : Nat} : ns n = [] ↔ n = 0 := by
  constructor
  · intro h; rw [← lw_ns n, h]; rfl
  · rintro rfl; exact ns_zero
theorem ns_cons (x n : Nat) (hx : x < 10) (h : x ≠ 0 ∨ n ≠ 0) : ns (x + 10 * n) = x :: ns n := by
  rw [ns_pos (by omega), show (x + 10 * n) % 10 = x by omega, show (x + 10 * n) / 10 = n by omega]
theorem lw_append (a b : List Nat) : lw (a ++ b) = lw a + 10 ^ a.length * lw b := by
  induction a with
  | nil => simp [lw]
  | cons x t ih =>
    rw [List.cons_append, lw, ih, lw, List.length_cons, Nat.pow_succ, Nat.mul_add, ← Nat.mul_assoc, Nat.mul_comm (10 ^ t.length)]
    omega
theorem lw_lt (xs : List Nat) (h : digl xs) : lw xs < 10 ^ xs.length := by
  induction xs with
  | nil => simp [lw]
  | cons x t ih =>
    have h1 := h x (by simp)
    have h2 := ih (fun y hy => h y (by simp [hy]))
    rw [lw, List.length_cons, Nat.pow_succ]
    omega
/-- a list of digl whose last is not 0 is the canonical one -/
theorem ns_lw (xs : List Nat) (h : digl xs) (hl : xs.getLast? ≠ some 0) : ns (lw xs) = xs := by
  induction xs with
  | nil => rw [lw, ns_zero]
  | cons x t ih =>
    have h1 := h x (by simp)
    have h2 : digl t := fun y hy => h y (by simp [hy])
    have h3 : t.getLast? ≠ some 0 := by
      cases t with
      | nil => simp
      | cons y u => simpa [List.getLast?_cons_cons] using hl
    have ih' := ih h2 h3
    have hx : x ≠ 0 ∨ lw t ≠ 0 := by
      cases t with
      | nil => left; simpa using hl
      | cons y u =>
        right; intro e
        rw [e, ns_zero] at ih'; cases ih'
    rw [lw, ns_cons x _ h1 hx, ih']
theorem ns_last (n : Nat) : (ns n).getLast? ≠ some 0 := by
  induction n using Nat.strongRecOn with
  | _ n ih =>
    by_cases h : n = 0
    · subst h; rw [ns_zero]; simp
    · rw [ns_pos h]
      by_cases h1 : n / 10 = 0
      · rw [h1, ns_zero]; simp; omega
      · have := ih (n / 10) (by omega)
        cases hn : ns (n / 10) with
        | nil => exact absurd (ns_eq_nil.1 hn) h1
        | cons y u => rw [List.getLast?_cons_cons, ← hn]; exact this
theorem lw_snoc_zero (xs : List Nat) : lw (xs ++ [0]) = lw xs := by rw [lw_append]; simp [lw]
theorem digl_nil : digl [] := fun x hx => by cases hx
theorem digl_append {a b : List Nat} : digl (a ++ b) ↔ digl a ∧ digl b := by
  unfold digl; constructor
  · intro h; exact ⟨fun x hx => h x (by simp [hx]), fun x hx => h x (by simp [hx])⟩
  · rintro ⟨h1, h2⟩ x hx
    rcases List.mem_append.1 hx with h | h
    · exact h1 x h
    · exact h2 x h
theorem ns_length_le {n k : Nat} : (ns n).length ≤ k ↔ n < 10 ^ k := by
  induction k generalizing n with
  | zero => simp [ns_eq_nil]
  | succ k ih =>
    by_cases h : n = 0
    · subst h; rw [ns_zero]; simp; exact Nat.pow_pos (by omega)
    · rw [ns_pos h, List.length_cons, Nat.pow_succ]
      have := @ih (n / 10)
      constructor
      · intro h1; have := this.1 (by omega); omega
      · intro h1; have := this.2 (by omega); omega
theorem ns_length_mono {m n : Nat} (h : m ≤ n) : (ns m).length ≤ (ns n).length :=
  ns_length_le.2 (Nat.lt_of_le_of_lt h (ns_length_le.1 (Nat.le_refl _)))
end Num
open Num
theorem trim_len10 (xs : List Nat) (k : Nat) (hx : digl xs) (hk : k ≤ xs.length) (he : lw (xs.take k) = lw xs) (h : k = 0 ∨ atN xs (k - 1) ≠ 0) : (ns (lw xs)).length = k ∧ xs.take k = ns (lw xs) := by
  have h1 : digl (xs.take k) := fun x hx' => hx x (List.mem_of_mem_take hx')
  have h2 : (xs.take k).getLast? ≠ some 0 := by
    rcases h with rfl | h
    · simp
    · by_cases h0 : k = 0
      · subst h0; simp
      · rw [List.getLast?_eq_getElem?, List.length_take, Nat.min_eq_left hk, List.getElem?_take]
        rw [if_pos (by omega)]
        intro e
        apply h
        unfold atN
        rw [List.getD_eq_getElem?_getD, e]; rfl
  have := ns_lw _ h1 h2
  rw [he] at this
  rw [this]
  simp [hk]
theorem take_zero_step10 (xs : List Nat) (k : Nat) (hk : k < xs.length) (h : atN xs k = 0) : lw (xs.take k) = lw (xs.take (k + 1)) := by
  rw [List.take_succ_eq_append_getElem hk]
  have : xs[k] = 0 := by simpa [atN, hk] using h
  rw [this, lw_snoc_zero]
theorem take_ns (xs : List Nat) (hx : digl xs) : xs.take (ns (lw xs)).length = ns (lw xs) := by
  have : ∀ k, k ≤ xs.length → lw (xs.take k) = lw xs → xs.take (ns (lw xs)).length = ns (lw xs) := by
    intro k
    induction k with
    | zero => intro hk he; have := trim_len10 xs 0 hx hk he (.inl rfl); rw [this.1]; exact this.2
    | succ k ih =>
      intro hk he
      by_cases h : atN xs k = 0
      · exact ih (by omega) (by rw [take_zero_step10 xs k (by omega) h]; exact he)
      · have := trim_len10 xs (k + 1) hx hk he (.inr (by simpa using h)); rw [this.1]; exact this.2
  exact this xs.length (Nat.le_refl _) (by simp)

theorem atD_lt {xs : List Nat} (h : digl xs) (k : Nat) : atN xs k < 10 := by
  unfold atN
  rw [List.getD_eq_getElem?_getD]
  cases hk : xs[k]? with
  | none => simp
  | some x => exact h x (List.mem_of_getElem? hk)
theorem lw_take_succ (xs : List Nat) (k : Nat) : lw (xs.take (k + 1)) = lw (xs.take k) + 10 ^ k * atN xs k := by
  by_cases h : k < xs.length
  · rw [List.take_succ_eq_append_getElem h, lw_append, List.length_take, Nat.min_eq_left (by omega)]
    simp [lw, atN, h]
  · rw [List.take_of_length_le (by omega), List.take_of_length_le (by omega), atN_ge (by omega)]; simp
theorem lw_snoc (ys : List Nat) (x : Nat) : lw (ys ++ [x]) = lw ys + 10 ^ ys.length * x := by
  rw [lw_append]; simp [lw]
theorem digl_snoc {ys : List Nat} {x : Nat} (h : digl ys) (hx : x < 10) : digl (ys ++ [x]) :=
  digl_append.2 ⟨h, fun y hy => by simp at hy; rw [hy]; exact hx⟩
/-- product with one limb: one round -/
theorem times_step10 (xs ys : List Nat) (k m carry : Nat) (hy : ys.length = k) (h : lw ys + 10 ^ k * carry = lw (xs.take k) * m) :
    lw (ys ++ [(atN xs k * m + carry) % 10]) + 10 ^ (k + 1) * ((atN xs k * m + carry) / 10) = lw (xs.take (k + 1)) * m := by
  rw [lw_snoc, hy, lw_take_succ, Nat.add_mul, ← h, Nat.pow_succ]
  generalize hn : atN xs k * m + carry = n
  have : 10 ^ k * (n % 10) + 10 ^ k * 10 * (n / 10) = 10 ^ k * n := by
    rw [Nat.mul_assoc, ← Nat.mul_add]; congr 1; omega
  rw [Nat.add_assoc, this, ← hn, Nat.mul_add, Nat.mul_assoc]
  omega
theorem carry_lt10 (x m carry : Nat) (hx : x < 10) (hm : m < 10) (hc : carry < 10) : x * m + carry ≤ 90 ∧ (x * m + carry) / 10 < 10 := by
  have : x * m ≤ 9 * 9 := Nat.mul_le_mul (by omega) (by omega)
  omega
/-- a list that is as long as its value needs is canonical -/
theorem ns_of_len (ys : List Nat) (hy : digl ys) (h : ys.length ≤ (ns (lw ys)).length) : ns (lw ys) = ys := by
  have := take_ns ys hy
  rw [← this, List.take_of_length_le h]
theorem ns_len_ge {n k : Nat} (h : 10 ^ k ≤ n) : k + 1 ≤ (ns n).length := by
  rcases Nat.lt_or_ge k (ns n).length with h1 | h1
  · exact h1
  · have := ns_length_le.1 h1; omega
theorem pow_le_of_len10 {n : Nat} (h : 0 < (ns n).length) : 10 ^ ((ns n).length - 1) ≤ n := by
  rcases Nat.lt_or_ge n (10 ^ ((ns n).length - 1)) with h1 | h1
  · have := ns_length_le.2 h1; omega
  · exact h1
/-- sum: one round -/
theorem add_step10 (xs ys zs : List Nat) (k carry : Nat) (hz : zs.length = k) (h : lw zs + 10 ^ k * carry = lw (xs.take k) + lw (ys.take k)) :
    lw (zs ++ [(atN xs k + atN ys k + carry) % 10]) + 10 ^ (k + 1) * ((atN xs k + atN ys k + carry) / 10) = lw (xs.take (k + 1)) + lw (ys.take (k + 1)) := by
  rw [lw_snoc, hz, lw_take_succ, lw_take_succ, Nat.pow_succ]
  generalize hn : atN xs k + atN ys k + carry = n
  have : 10 ^ k * (n % 10) + 10 ^ k * 10 * (n / 10) = 10 ^ k * n := by
    rw [Nat.mul_assoc, ← Nat.mul_add]; congr 1; omega
  rw [Nat.add_assoc, this, ← hn, Nat.mul_add, Nat.mul_add]
  omega
/-- difference: one round -/
theorem sub_step10 (xs ys zs : List Nat) (k borrow d borrow' : Nat) (hz : zs.length = k) (h : lw zs + lw (ys.take k) = lw (xs.take k) + 10 ^ k * borrow)
    (hd : d + atN ys k + borrow = atN xs k + 10 * borrow') :
    lw (zs ++ [d]) + lw (ys.take (k + 1)) = lw (xs.take (k + 1)) + 10 ^ (k + 1) * borrow' := by
  rw [lw_snoc, hz, lw_take_succ, lw_take_succ, Nat.pow_succ, Nat.mul_assoc]
  have := congrArg (10 ^ k * ·) hd
  simp only [Nat.mul_add] at this
  omega
/-- a store -/
theorem lw_set (zs : List Nat) (j u : Nat) (hj : j < zs.length) : lw (zs.set j u) + 10 ^ j * atN zs j = lw zs + 10 ^ j * u := by
  have h1 := lw_append (zs.take j) (zs.drop j)
  rw [List.take_append_drop, List.length_take, Nat.min_eq_left (by omega), List.drop_eq_getElem_cons hj, lw] at h1
  rw [List.set_eq_take_append_cons_drop, if_pos hj, lw_append, List.length_take, Nat.min_eq_left (by omega), lw, h1]
  have : atN zs j = zs[j] := by simp [atN, hj]
  rw [this]
  simp only [Nat.mul_add]
  omega
theorem digl_set {zs : List Nat} {j u : Nat} (h : digl zs) (hu : u < 10) : digl (zs.set j u) := by
  intro x hx
  rcases List.mem_or_eq_of_mem_set hx with h1 | h1
  · exact h x h1
  · omega
theorem lw_replicate (n : Nat) : lw (List.replicate n 0) = 0 := by
  induction n with
  | zero => rfl
  | succ n ih => rw [List.replicate_succ, lw, ih]
theorem digl_replicate (n : Nat) : digl (List.replicate n 0) := fun x hx => by rw [List.eq_of_mem_replicate hx]; decide
theorem mul_step10 (zs ys : List Nat) (i k x carry base : Nat) (hl : i + k < zs.length)
    (h : lw zs + 10 ^ (i + k) * carry = base + 10 ^ i * x * lw (ys.take k)) :
    lw (zs.set (i + k) ((atN zs (i + k) + x * atN ys k + carry) % 10)) + 10 ^ (i + (k + 1)) * ((atN zs (i + k) + x * atN ys k + carry) / 10) =
      base + 10 ^ i * x * lw (ys.take (k + 1)) := by
  have h1 := lw_set zs (i + k) ((atN zs (i + k) + x * atN ys k + carry) % 10) hl
  generalize hn : atN zs (i + k) + x * atN ys k + carry = n at *
  rw [lw_take_succ, Nat.mul_add, ← Nat.add_assoc base, ← h, show i + (k + 1) = i + k + 1 from rfl, Nat.pow_succ]
  have h2 : 10 ^ (i + k) * (n % 10) + 10 ^ (i + k) * 10 * (n / 10) = 10 ^ (i + k) * n := by
    rw [Nat.mul_assoc, ← Nat.mul_add]; congr 1; omega
  have h3 : 10 ^ i * x * (10 ^ k * atN ys k) = 10 ^ (i + k) * (x * atN ys k) := by
    rw [Nat.pow_add]; simp only [Nat.mul_assoc, Nat.mul_left_comm, Nat.mul_comm]
  rw [h3]
  have h4 : 10 ^ (i + k) * n = 10 ^ (i + k) * atN zs (i + k) + 10 ^ (i + k) * (x * atN ys k) + 10 ^ (i + k) * carry := by
    rw [← hn, Nat.mul_add, Nat.mul_add]
  omega
theorem mul_end10 (zs xs ys : List Nat) (i carry : Nat) (hl : i + ys.length < zs.length) (hz : atN zs (i + ys.length) = 0)
    (h : lw zs + 10 ^ (i + ys.length) * carry = lw (xs.take i) * lw ys + 10 ^ i * atN xs i * lw (ys.take ys.length)) :
    lw (zs.set (i + ys.length) carry) = lw (xs.take (i + 1)) * lw ys := by
  have h1 := lw_set zs (i + ys.length) carry hl
  rw [hz, Nat.mul_zero, Nat.add_zero] at h1
  rw [h1, h, lw_take_succ, Nat.add_mul, List.take_of_length_le (Nat.le_refl _)]

theorem ns_dec : ∀ n, n ≠ 0 → dec n = ((ns n).map dch).reverse := by
  intro n
  induction n using Nat.strongRecOn with
  | _ n ih =>
    intro h
    rw [ns_pos h]
    by_cases h1 : n < 10
    · rw [dec_lt h1, show n / 10 = 0 by omega, ns_zero, show n % 10 = n by omega]; rfl
    · rw [dec_ge h1, ih (n / 10) (by omega) (by omega)]; simp
theorem ns_len {n : Nat} (h : n ≠ 0) : (ns n).length = (dec n).length := by rw [ns_dec n h]; simp
theorem ns_len_le (n : Nat) : (ns n).length ≤ (dec n).length := by
  by_cases h : n = 0
  · subst h; rw [ns_zero]; simp
  · rw [ns_len h]; exact Nat.le_refl _
theorem lw_dv : ∀ l : Str, lw (l.reverse.map dv) = val l := by
  intro l
  have : ∀ r : Str, lw (r.map dv) = val r.reverse := by
    intro r
    induction r with
    | nil => rfl
    | cons c t ih => rw [List.map_cons, lw, ih, List.reverse_cons, val_snoc]; omega
  rw [this, List.reverse_reverse]
theorem digl_dv {l : Str} (h : l.all isDig = true) : digl (l.map dv) := by
  intro x hx
  obtain ⟨c, hc, rfl⟩ := List.mem_map.1 hx
  exact dv_lt (List.all_eq_true.1 h c hc)
end Go.Proofs.YtkloocjmncconaaDoor
/- The reference of whole: trim, digit, compare, parts, text. -/
namespace Go.Proofs.YtkloocjmncconaaDoor
open Go.RowKit Num
set_option linter.unusedVariables false
attribute [local go_sem] B_size B_get B_toList B_mk B_extract B_append
attribute [local go_sem high] run_max2

/-- a slice of digits that reads as the number n -/
structure DigAt (w : World) (A : Option Addr) (c n : Nat) : Prop where
  cells : Cells w A (nums (ns n))
  le : (ns n).length ≤ c
  cap : c ≤ maxLen
theorem DigAt.below {w w' : World} {A : Option Addr} {c n : Nat} (h : DigAt w A c n) (hb : Below w.heap.size w w') : DigAt w' A c n := ⟨h.cells.below hb, h.le, h.cap⟩
theorem el_ints : Elem Tryd.prog 59 3 (.int .i64 0) 8 := ⟨Tryd.underlying59, info_parts int_info, rfl⟩

theorem lwT_lt {xs : List Nat} (h : digl xs) (k : Nat) : lw (xs.take k) < 10 ^ k := by
  have h1 := lw_lt (xs.take k) (fun x hx => h x (List.mem_of_mem_take hx))
  exact Nat.lt_of_lt_of_le h1 (Nat.pow_le_pow_right (by omega) (by rw [List.length_take]; omega))
theorem cmp_start (xs ys : List Nat) : lw xs + lw (ys.take (max xs.length ys.length)) = lw ys + lw (xs.take (max xs.length ys.length)) := by
  rw [List.take_of_length_le (by omega), List.take_of_length_le (by omega)]; omega
theorem cmp_step {xs ys : List Nat} {k : Nat} (h : lw xs + lw (ys.take (k + 1)) = lw ys + lw (xs.take (k + 1))) (he : atN xs k = atN ys k) : lw xs + lw (ys.take k) = lw ys + lw (xs.take k) := by
  rw [lw_take_succ, lw_take_succ, he] at h; omega
theorem cmp_less {xs ys : List Nat} {k : Nat} (hx : digl xs) (h : lw xs + lw (ys.take (k + 1)) = lw ys + lw (xs.take (k + 1))) (he : atN xs k < atN ys k) : lw xs < lw ys := by
  rw [lw_take_succ, lw_take_succ] at h
  have h1 := lwT_lt hx k
  have h2 : 10 ^ k * (atN xs k + 1) ≤ 10 ^ k * atN ys k := Nat.mul_le_mul_left _ (by omega)
  rw [Nat.mul_add] at h2
  omega
theorem ordI_lt {x y : Nat} (h : x < y) : ordI x y = -1 := by unfold ordI; rw [if_pos (by omega)]
theorem ordI_gt {x y : Nat} (h : y < x) : ordI x y = 1 := by unfold ordI; rw [if_neg (by omega), if_pos (by omega)]
theorem ordI_eq {x y : Nat} (h : x = y) : ordI x y = 0 := by unfold ordI; rw [if_neg (by omega), if_neg (by omega)]

/-- the digits of a text, the least first -/
def rdig (m : Str) : List Nat := m.reverse.map dv
theorem rdig_length (m : Str) : (rdig m).length = m.length := by simp [rdig]
theorem rdig_take_succ (m : Str) (k : Nat) (h : k < m.length) : (rdig m).take (k + 1) = (rdig m).take k ++ [dv (at8 m (m.length - 1 - k))] := by
  rw [List.take_succ_eq_append_getElem (by rw [rdig_length]; exact h)]
  congr 2
  simp only [rdig, List.getElem_map, List.getElem_reverse]
  rw [at8_eq m _ (by omega)]
theorem digl_rdig {m : Str} (h : m.all isDig = true) : digl (rdig m) := digl_dv (by rw [List.all_reverse]; exact h)
theorem neg_at {l : Str} (h : neg? l = true) : at8 l 0 = 45 ∧ 0 < l.length ∧ mag l = l.drop 1 := by
  unfold neg? at h
  cases l with
  | nil => simp at h
  | cons c t => simp at h; subst h; exact ⟨rfl, by simp, rfl⟩
theorem neg_not {l : Str} (h : neg? l = false) : mag l = l ∧ (0 < l.length → at8 l 0 ≠ 45) := by
  refine ⟨by unfold mag; rw [h]; rfl, ?_⟩
  unfold neg? at h
  cases l with
  | nil => simp
  | cons c t => simp at h; intro _; exact h
theorem at8_drop (l : Str) (j : Nat) : at8 (l.drop 1) j = at8 l (j + 1) := by
  unfold at8; simp [List.getD]

end Go.Proofs.YtkloocjmncconaaDoor
/- The reference of whole: text, Right, Digits, check, result. -/
namespace Go.Proofs.YtkloocjmncconaaDoor
open Go.RowKit Num
set_option linter.unusedVariables false
attribute [local go_sem] B_size B_get B_toList B_mk B_extract B_append
attribute [local go_sem high] run_max2

theorem bytes_snoc (l : List UInt8) (c : UInt8) : bytes (l ++ [c]) = bytes l ++ [.int .u8 (c.toNat : Int)] := by simp [bytes]
theorem text_step (ys : List Nat) (j : Nat) (h : j < ys.length) : ((ys.drop j).map dch).reverse = ((ys.drop (j + 1)).map dch).reverse ++ [dch (atN ys j)] := by
  rw [List.drop_eq_getElem_cons h, List.map_cons, List.reverse_cons]; simp [atN, h]
theorem atD_mem {xs : List Nat} (h : digl xs) (k : Nat) : atN xs k < 10 := atD_lt h k

end Go.Proofs.YtkloocjmncconaaDoor
/- The reference of whole: Right, Digits, check, result. -/
namespace Go.Proofs.YtkloocjmncconaaDoor
open Go.RowKit Num
set_option linter.unusedVariables false
attribute [local go_sem] B_size B_get B_toList B_mk B_extract B_append
attribute [local go_sem high] run_max2

theorem isDig_no1 {c : UInt8} (h : c.toNat < 48) : isDig c = false := by unfold isDig; simp; omega
theorem isDig_no2 {c : UInt8} (h : 57 < c.toNat) : isDig c = false := by unfold isDig; simp; omega
theorem isDig_yes {c : UInt8} (h : 48 ≤ c.toNat) (h2 : c.toNat ≤ 57) : isDig c = true := by unfold isDig; simp; omega
theorem all_drop_no {l : Str} {f k : Nat} (h1 : f ≤ k) (h2 : k < l.length) (h3 : isDig (at8 l k) = false) : (l.drop f).all isDig = false := by
  rw [List.all_eq_false]
  refine ⟨l[k], ?_, by rw [← at8_eq l k h2, h3]; simp⟩
  rw [List.mem_drop_iff_getElem]
  exact ⟨k - f, by omega, by congr 1; omega⟩
theorem all_drop_snoc {l : Str} {f k : Nat} (h1 : f ≤ k) (h2 : k < l.length) (h3 : ((l.take k).drop f).all isDig = true) (h4 : isDig (at8 l k) = true) : ((l.take (k + 1)).drop f).all isDig = true := by
  rw [List.take_succ_eq_append_getElem h2, List.drop_append_of_le_length (by rw [List.length_take]; omega), List.all_append, h3]
  simpa [at8_eq l k h2] using h4
theorem head_drop {l : Str} {f : Nat} (h : f < l.length) : (l.drop f).head? = some (at8 l f) := by
  rw [List.drop_eq_getElem_cons h, at8_eq l f h]; rfl

end Go.Proofs.YtkloocjmncconaaDoor

/- Texts of integers: errors, results, signs. Plain. -/
import Derived.Test.YtkggdkkfdbbglaaDoorWNum
namespace Go.Proofs.YtkggdkkfdbbglaaDoor
namespace Num

def errI (a b : Str) : Int := if rightI a = true ∧ rightI b = true then (if (mag a).length ≤ 4096 ∧ (mag b).length ≤ 4096 then 0 else 4) else 3
theorem errI_zero {a b : Str} : errI a b = 0 ↔ rightI a = true ∧ rightI b = true ∧ (mag a).length ≤ 4096 ∧ (mag b).length ≤ 4096 := by
  unfold errI
  by_cases h : rightI a = true ∧ rightI b = true
  · rw [if_pos h]
    by_cases h2 : (mag a).length ≤ 4096 ∧ (mag b).length ≤ 4096
    · rw [if_pos h2]; simp [h, h2]
    · rw [if_neg h2]; simp [h]; omega
  · rw [if_neg h]; simp; intro h1 h2; exact absurd ⟨h1, h2⟩ h
def resIS (z : Int) : Str := if (dec z.natAbs).length ≤ 4096 then decI z else []
def resIE (z : Int) : Int := if (dec z.natAbs).length ≤ 4096 then 0 else 4
def addIS (a b : Str) : Str := if errI a b = 0 then resIS (valI a + valI b) else []
def addIE (a b : Str) : Int := if errI a b = 0 then resIE (valI a + valI b) else errI a b
def subIS (a b : Str) : Str := if errI a b = 0 then resIS (valI a - valI b) else []
def subIE (a b : Str) : Int := if errI a b = 0 then resIE (valI a - valI b) else errI a b
def mulIS (a b : Str) : Str := if errI a b = 0 then resIS (valI a * valI b) else []
def mulIE (a b : Str) : Int := if errI a b = 0 then resIE (valI a * valI b) else errI a b
def negIS (a : Str) : Str := if errI a a = 0 then decI (-(valI a)) else []
def absIS (a : Str) : Str := if errI a a = 0 then decI ((valI a).natAbs : Int) else []
/-- the quotient, rounded down, and the remainder -/
def qI (x y : Int) : Int := if y < 0 then (-x) / (-y) else x / y
def rI (x y : Int) : Int := x - y * qI x y
def divIE (a b : Str) : Int := if errI a b = 0 then (if valI b = 0 then 10 else 0) else errI a b
def divIQ (a b : Str) : Str := if divIE a b = 0 then decI (qI (valI a) (valI b)) else []
def divIR (a b : Str) : Str := if divIE a b = 0 then decI (rI (valI a) (valI b)) else []
/-- the order of two texts: of two integers, or 0 -/
def ordI (x y : Int) : Int := if x < y then -1 else if y < x then 1 else 0
def cmpIS (a b : Str) : Int := if rightI a = true ∧ rightI b = true then ordI (valI a) (valI b) else 0
def signIS (a : Str) : Int := if rightI a = true then ordI (valI a) 0 else 0

/-- sign and magnitude -/
def sg (m : Bool) (n : Nat) : Int := if m = true then -(n : Int) else (n : Int)
theorem sg_false (n : Nat) : sg false n = (n : Int) := rfl
theorem sg_true (n : Nat) : sg true n = -(n : Int) := rfl
theorem sg_abs (m : Bool) (n : Nat) : (sg m n).natAbs = n := by cases m <;> simp [sg]
theorem sg_zero (m : Bool) : sg m 0 = 0 := by cases m <;> rfl
theorem valI_sg (s : Str) : valI s = sg (neg? s) (val (mag s)) := rfl
theorem decI_sg_pos {n : Nat} (h : n ≠ 0) : decI (sg true n) = 45 :: dec n := by
  rw [sg_true, decI_neg (by omega)]
theorem decI_sg_false (n : Nat) : decI (sg false n) = dec n := decI_nat n
theorem sg_not (m : Bool) (n : Nat) : sg (!m) n = -(sg m n) := by cases m <;> simp [sg]
theorem right_mag {s : Str} (h : rightI s = true) : right (mag s) = true := by unfold rightI at h; simp at h; exact h.1
theorem dec_mag {s : Str} (h : rightI s = true) : mag s = dec (val (mag s)) := (dec_val (right_mag h)).symm
theorem abs_valI (s : Str) : (valI s).natAbs = val (mag s) := by rw [valI_sg, sg_abs]

theorem sum_same (m : Bool) (x y : Nat) : sg m x + sg m y = sg m (x + y) := by cases m <;> simp [sg] <;> omega
theorem sum_less {m n : Bool} {x y : Nat} (h : m ≠ n) (hl : x < y) : sg m x + sg n y = sg n (y - x) := by
  cases m <;> cases n <;> simp [sg] at * <;> omega
theorem sum_more {m n : Bool} {x y : Nat} (h : m ≠ n) (hl : y ≤ x) : sg m x + sg n y = sg m (x - y) := by
  cases m <;> cases n <;> simp [sg] at * <;> omega
theorem mul_sg (m n : Bool) (x y : Nat) : sg m x * sg n y = sg (m != n) (x * y) := by
  cases m <;> cases n <;> simp [sg, Int.mul_neg, Int.neg_mul]
theorem div_unique {x b q r : Int} (h : x = b * q + r) (h0 : 0 ≤ r) (h1 : r < b) : x / b = q := by
  have := (Int.ediv_emod_unique (a := x) (b := b) (r := r) (q := q) (by omega)).2 ⟨by rw [h]; omega, h0, h1⟩
  exact this.1
theorem div_same (m : Bool) {x y : Nat} (hy : 0 < y) : qI (sg m x) (sg m y) = ((x / y : Nat) : Int) ∧ rI (sg m x) (sg m y) = sg m (x % y) := by
  have h1 := Nat.div_add_mod x y
  have h2 := Nat.mod_lt x hy
  have hq : qI (sg m x) (sg m y) = ((x / y : Nat) : Int) := by
    unfold qI
    cases m
    · rw [sg_false, sg_false, if_neg (by omega)]; simp
    · rw [sg_true, sg_true, if_pos (by omega)]; simp
  refine ⟨hq, ?_⟩
  unfold rI
  rw [hq]
  have h3 : (y : Int) * ((x / y : Nat) : Int) + ((x % y : Nat) : Int) = (x : Int) := by rw [← Int.natCast_mul]; omega
  cases m
  · rw [sg_false, sg_false, sg_false]; omega
  · rw [sg_true, sg_true, sg_true, Int.neg_mul]; omega
theorem div_exact {m n : Bool} {x y : Nat} (hmn : m ≠ n) (hy : 0 < y) (hr : x % y = 0) : qI (sg m x) (sg n y) = sg true (x / y) ∧ rI (sg m x) (sg n y) = 0 := by
  have h1 := Nat.div_add_mod x y
  have h3 : (y : Int) * ((x / y : Nat) : Int) = (x : Int) := by rw [← Int.natCast_mul]; omega
  have hd : (-(x : Int)) / (y : Int) = -((x / y : Nat) : Int) := div_unique (r := 0) (by rw [Int.mul_neg]; omega) (by omega) (by omega)
  have hq : qI (sg m x) (sg n y) = sg true (x / y) := by
    unfold qI
    rw [sg_true]
    cases m <;> cases n
    · exact absurd rfl hmn
    · rw [sg_false, sg_true, if_pos (by omega), Int.neg_neg]; exact hd
    · rw [sg_false, sg_true, if_neg (by omega)]; exact hd
    · exact absurd rfl hmn
  refine ⟨hq, ?_⟩
  unfold rI
  rw [hq, sg_true]
  cases m <;> cases n
  · exact absurd rfl hmn
  · rw [sg_false, sg_true, Int.neg_mul_neg]; omega
  · rw [sg_false, sg_true, Int.mul_neg]; omega
  · exact absurd rfl hmn
theorem div_other {m n : Bool} {x y : Nat} (hmn : m ≠ n) (hy : 0 < y) (hr : x % y ≠ 0) : qI (sg m x) (sg n y) = sg true (x / y + 1) ∧ rI (sg m x) (sg n y) = sg n (y - x % y) := by
  have h1 := Nat.div_add_mod x y
  have h2 := Nat.mod_lt x hy
  have h3 : (y : Int) * ((x / y : Nat) : Int) + ((x % y : Nat) : Int) = (x : Int) := by rw [← Int.natCast_mul]; omega
  have h4 : (y : Int) * ((x / y + 1 : Nat) : Int) = (y : Int) * ((x / y : Nat) : Int) + y := by rw [Int.natCast_add, Int.mul_add]; simp
  have hd : (-(x : Int)) / (y : Int) = -((x / y + 1 : Nat) : Int) := div_unique (r := ((y - x % y : Nat) : Int)) (by rw [Int.mul_neg]; omega) (by omega) (by omega)
  have hq : qI (sg m x) (sg n y) = sg true (x / y + 1) := by
    unfold qI
    rw [sg_true]
    cases m <;> cases n
    · exact absurd rfl hmn
    · rw [sg_false, sg_true, if_pos (by omega), Int.neg_neg]; exact hd
    · rw [sg_false, sg_true, if_neg (by omega)]; exact hd
    · exact absurd rfl hmn
  refine ⟨hq, ?_⟩
  unfold rI
  rw [hq, sg_true]
  cases m <;> cases n
  · exact absurd rfl hmn
  · rw [sg_false, sg_true, Int.neg_mul_neg, sg_true]; omega
  · rw [sg_false, sg_true, Int.mul_neg, sg_false]; omega
  · exact absurd rfl hmn
theorem res_of {s : Str} {z : Int} (h : rightI s = true) (hv : valI s = z) (hl : (mag s).length ≤ 4096) : resIS z = s ∧ resIE z = 0 := by
  have h1 : (dec z.natAbs).length ≤ 4096 := by rw [← hv, abs_valI, ← dec_mag h]; exact hl
  exact ⟨by rw [resIS, if_pos h1, ← hv, decI_valI h], by rw [resIE, if_pos h1]⟩
theorem decI_of {s : Str} {z : Int} (h : rightI s = true) (hv : valI s = z) : decI z = s := by rw [← hv, decI_valI h]
end Num
end Go.Proofs.YtkggdkkfdbbglaaDoor

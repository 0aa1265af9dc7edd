/- Rational numbers: order by Euclid's algorithm, the four operations; plain. -/
import Derived.Test.YtmppmdmekomjbaaGreatDoorRatP
namespace Go.Proofs.YtmppmdmekomjbaaGreatDoor
set_option linter.unusedVariables false
namespace Num

theorem ordI_swap (x y : Int) : ordI y x = -(ordI x y) := by unfold ordI; split <;> split <;> omega
/-- one step of Euclid's algorithm on p / q and r / s -/
theorem eu_less {p r q s : Int} (hq : 0 < q) (hs : 0 < s) (h : p / q < r / s) : ordI (p * s) (r * q) = -1 := by
  have h1 := Int.mul_ediv_add_emod p q
  have h2 := Int.emod_lt_of_pos p hq
  have h3 := Int.mul_ediv_add_emod r s
  have h4 := Int.emod_nonneg r (show s ≠ 0 by omega)
  generalize p / q = f at *
  generalize r / s = g at *
  generalize p % q = x at *
  generalize r % s = y at *
  have h5 : q * s * (f + 1) ≤ q * s * g := Int.mul_le_mul_of_nonneg_left (by omega) (Int.le_of_lt (Int.mul_pos hq hs))
  have h6 : x * s < q * s := Int.mul_lt_mul_of_pos_right h2 hs
  have h7 : 0 ≤ y * q := Int.mul_nonneg h4 (Int.le_of_lt hq)
  have e1 : p * s = q * s * f + x * s := by rw [← h1]; grind
  have e2 : r * q = q * s * g + y * q := by rw [← h3]; grind
  rw [Int.mul_add, Int.mul_one] at h5
  unfold ordI; rw [if_pos (by omega)]
theorem eu_more {p r q s : Int} (hq : 0 < q) (hs : 0 < s) (h : r / s < p / q) : ordI (p * s) (r * q) = 1 := by
  rw [ordI_swap, eu_less hs hq h]; rfl
theorem eu_same {p r q s : Int} (hq : 0 < q) (hs : 0 < s) (h : p / q = r / s) : ordI (p * s) (r * q) = ordI (p % q * s) (r % s * q) := by
  have h1 := Int.mul_ediv_add_emod p q
  have h3 := Int.mul_ediv_add_emod r s
  rw [← h] at h3
  generalize p / q = f at *
  generalize p % q = x at *
  generalize r % s = y at *
  have e1 : p * s = q * s * f + x * s := by rw [← h1]; grind
  have e2 : r * q = q * s * f + y * q := by rw [← h3]; grind
  rw [e1, e2]
  unfold ordI
  split <;> split <;> (try split) <;> (try split) <;> omega
theorem eu_zz {q s : Int} : ordI (0 * s) (0 * q) = 0 := by rw [Int.zero_mul, Int.zero_mul]; rfl
theorem eu_zp {q s y : Int} (hq : 0 < q) (hy : 0 < y) : ordI (0 * s) (y * q) = -1 := by
  have := Int.mul_pos hy hq
  rw [Int.zero_mul]; unfold ordI; rw [if_pos this]
theorem eu_pz {q s x : Int} (hs : 0 < s) (hx : 0 < x) : ordI (x * s) (0 * q) = 1 := by
  have := Int.mul_pos hx hs
  rw [Int.zero_mul]; unfold ordI; rw [if_neg (by omega), if_pos this]
theorem eu_turn {q s x y : Int} : ordI (x * s) (y * q) = -(ordI (q * y) (s * x)) := by
  rw [ordI_swap (y * q) (x * s), Int.mul_comm y q, Int.mul_comm x s]
theorem qI_pos {x y : Int} (hy : 0 < y) : qI x y = x / y ∧ rI x y = x % y := by
  have hq : qI x y = x / y := if_neg (by omega)
  refine ⟨hq, ?_⟩
  unfold rI
  rw [hq]; have := Int.mul_ediv_add_emod x y; omega

/-! ### operations on texts -/
def qn (s : Str) : Int := valI (numT s)
def qd (s : Str) : Nat := val (denT s)
theorem qn_ratS (n : Int) (d : Nat) : qn (ratS n d) = n := by unfold qn; rw [(parts_ratS n d).1, valI_decI]
theorem qd_ratS (n : Int) (d : Nat) : qd (ratS n d) = d := by unfold qd; rw [(parts_ratS n d).2.1, val_dec]
/-- x over y, y not 0 -/
def quoS (x y : Int) : Str := if y < 0 then lowS (-x) y.natAbs else lowS x y.natAbs
def errQ (a b : Str) : Int := if rightQ a = true ∧ rightQ b = true then 0 else 3
def sumOK (x y z : Int) (m : Int) : Prop := dl x ≤ 4096 ∧ dl y ≤ 4096 ∧ dl z ≤ 4096 ∧ dl m ≤ 4096
instance (x y z m : Int) : Decidable (sumOK x y z m) := by unfold sumOK; infer_instance
def addQE (a b : Str) : Int := if errQ a b = 0 then (if sumOK (qn a * qd b) (qn b * qd a) (qn a * qd b + qn b * qd a) ((qd a : Int) * qd b) then 0 else 4) else 3
def addQS (a b : Str) : Str := if addQE a b = 0 then lowS (qn a * qd b + qn b * qd a) (qd a * qd b) else []
def subQE (a b : Str) : Int := if errQ a b = 0 then (if sumOK (qn a * qd b) (qn b * qd a) (qn a * qd b - qn b * qd a) ((qd a : Int) * qd b) then 0 else 4) else 3
def subQS (a b : Str) : Str := if subQE a b = 0 then lowS (qn a * qd b - qn b * qd a) (qd a * qd b) else []
def mulQE (a b : Str) : Int := if errQ a b = 0 then (if dl (qn a * qn b) ≤ 4096 ∧ dl ((qd a : Int) * qd b) ≤ 4096 then 0 else 4) else 3
def mulQS (a b : Str) : Str := if mulQE a b = 0 then lowS (qn a * qn b) (qd a * qd b) else []
def quoQE (a b : Str) : Int := if errQ a b = 0 then (if qn b = 0 then 10 else if dl (qn a * qd b) ≤ 4096 ∧ dl ((qd a : Int) * qn b) ≤ 4096 then 0 else 4) else 3
def quoQS (a b : Str) : Str := if quoQE a b = 0 then quoS (qn a * qd b) ((qd a : Int) * qn b) else []
def cmpQ (a b : Str) : Int := if errQ a b = 0 then ordI (qn a * qd b) (qn b * qd a) else 0
def signQ (a : Str) : Int := if rightQ a = true then ordI (qn a) 0 else 0
def rightE (a : Str) : Int := if rightQ a = true then 0 else 3
end Num
end Go.Proofs.YtmppmdmekomjbaaGreatDoor

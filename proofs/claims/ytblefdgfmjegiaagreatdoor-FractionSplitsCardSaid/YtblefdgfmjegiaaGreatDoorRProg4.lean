/- ratio: Sign, Floor, Ceil, Compare. (Printed by wip/rprog4.py.) -/
import Derived.Test.YtblefdgfmjegiaaGreatDoorRProg3
import Derived.Test.YtblefdgfmjegiaaGreatDoorRatF
import Derived.Test.YtblefdgfmjegiaaGreatDoorG12
namespace Go.Proofs.YtblefdgfmjegiaaGreatDoor
open Go.RowKit Num
set_option linter.unusedVariables false
attribute [local go_sem] B_size B_get B_toList B_mk B_extract B_append
attribute [local go_sem high] run_max2

theorem qfloor_any (l : List UInt8) (w : World) (hl : l.length ≤ 1000000) (he : Env w) :
    Calls Tryz.prog 46 #[.string (B l)] w fun e w' => e = .returned (.tuple #[.string (B (floorQ l)), .int .i64 (rightE l)]) ∧ Below w.heap.size w w' := by
  have HP := Lib.hid (qparts_any l w hl he)
  cases h1 : rightQ l
  · have HE := Lib.hid (show prtN l = [] ∧ prtD l = [] ∧ rightE l = 3 ∧ floorQ l = [] by unfold prtN prtD rightE floorQ; rw [h1]; exact ⟨rfl, rfl, rfl, rfl⟩)
    rw [HE.out.1, HE.out.2.1, HE.out.2.2.1] at HP
    go_enter Tryz.func46, Tryz.ntmps46
    simp only [B_mk]
    go_wp2_with fail
    refine HP.out.mono ?_
    rintro e w1 ⟨rfl, hb1⟩
    go_wp2_with fail
    go_ret2
    exact ⟨ret_si' HE.out.2.2.2.symm HE.out.2.2.1.symm, hb1⟩
  · have hp := rq_parts h1
    have HE := Lib.hid (show prtN l = decI (qn l) ∧ prtD l = dec (qd l) ∧ rightE l = 0 ∧ floorQ l = decI (qn l / qd l) by unfold prtN prtD rightE floorQ; rw [h1]; exact ⟨hp.1, hp.2.1, rfl, rfl⟩)
    rw [HE.out.1, HE.out.2.1, HE.out.2.2.1] at HP
    have HD := Lib.hid (fun w ht => pdivq_any (qn l) (qd l) w hp.2.2.2.1 hp.2.2.2.2.1 hp.2.2.1 ht)
    clear hp
    go_enter Tryz.func46, Tryz.ntmps46
    simp only [B_mk]
    go_wp2_with fail
    refine HP.out.mono ?_
    rintro e w1 ⟨rfl, hb1⟩
    go_wp2_with fail
    refine (HD.out w1 (he.1.below hb1)).mono ?_
    rintro e w2 ⟨rfl, hb2⟩
    go_wp2_with fail
    go_ret2
    exact ⟨ret_si' HE.out.2.2.2.symm HE.out.2.2.1.symm, hb1.trans (hb2.mono hb1.size)⟩
theorem padd1_any (x : Int) (w : World) (hx : dl x ≤ 4096) (hz : dl (x + 1) ≤ 4096) (ht : Tab w) :
    Calls Tryz.prog 85 #[.string (B (decI x)), .string (B [49])] w fun e w' => e = .returned (.tuple #[.string (B (decI (x + 1))), .int .i64 0]) ∧ Below w.heap.size w w' := by
  have h1 := dl_len x
  rw [show ([49] : Str) = decI 1 from by rw [show (1 : Int) = ((1 : Nat) : Int) from rfl, decI_nat, dec_one]]
  have h2 := dl_len 1
  have h3 := dl_one
  have h := padd_any (decI x) (decI 1) w (by omega) (by omega) ht
  have he := errI_dec (x := x) (y := 1) (by omega) (by omega)
  have hr := resIS_dec (z := x + 1) hz
  have e1 : addIS (decI x) (decI 1) = decI (x + 1) := by unfold addIS; rw [if_pos he, valI_decI, valI_decI, hr.1]
  have e2 : addIE (decI x) (decI 1) = 0 := by unfold addIE; rw [if_pos he, valI_decI, valI_decI, hr.2]
  rw [e1, e2] at h; exact h
theorem ceil_same {p q : Int} (hq : 0 < q) (h : p % q = 0) : -(-p / q) = p / q := by
  have h1 := Int.mul_ediv_add_emod p q
  rw [h, Int.add_zero] at h1
  rw [← h1, ← Int.mul_neg, Int.mul_ediv_cancel_left _ (by omega), Int.mul_ediv_cancel_left _ (by omega)]; omega
theorem ceil_next {p q : Int} (hq : 0 < q) (h : p % q ≠ 0) : -(-p / q) = p / q + 1 := by
  have h1 := Int.mul_ediv_add_emod p q
  have h2 := Int.emod_nonneg p (show q ≠ 0 by omega)
  have h3 := Int.emod_lt_of_pos p hq
  have e : -p = q - p % q + q * (-(p / q) - 1) := by rw [Int.mul_sub, Int.mul_neg]; omega
  rw [e, Int.add_mul_ediv_left _ _ (by omega : q ≠ 0), Int.ediv_eq_zero_of_lt (by omega) (by omega)]; omega
theorem ceil_small {p q : Int} (hq : 0 < q) (h : p % q ≠ 0) : (p / q + 1).natAbs ≤ p.natAbs := by
  have h1 := Int.mul_ediv_add_emod p q
  have h2 := Int.emod_nonneg p (show q ≠ 0 by omega)
  have h3 := Int.emod_lt_of_pos p hq
  generalize p / q = n at *
  generalize p % q = r at *
  have hq2 : 2 ≤ q := by omega
  by_cases hn : n < 0
  · have : q * (-n) ≥ 2 * (-n) := Int.mul_le_mul_of_nonneg_right hq2 (by omega)
    rw [Int.mul_neg] at this
    have h5 : q * n + q ≤ n + 1 ∨ True := .inr trivial
    have h6 : (q - 1) * (-n - 1) ≥ 0 := Int.mul_nonneg (by omega) (by omega)
    have h7 : (q - 1) * (-n - 1) = -(q * n) - q + n + 1 := by grind
    omega
  · have : q * n ≥ 2 * n := Int.mul_le_mul_of_nonneg_right hq2 (by omega)
    omega
/-- a text's value, for a loop's measure -/
def strVal : Value → Nat
  | .string b => val b.data.toList
  | _ => 0
theorem strVal_B (l : Str) : strVal (.string (B l)) = val l := by simp [strVal, B]
theorem cmp_dec {x y : Int} : cmpIS (decI x) (decI y) = ordI x y := by unfold cmpIS; rw [if_pos ⟨rightI_decI _, rightI_decI _⟩, valI_decI, valI_decI]
theorem ecmp_step {x z : Int} {y v : Nat} (hy : 0 < y) (hv : 0 < v) (h : x / (y : Int) = z / (v : Int)) : ordI (x * v) (z * y) = ordI (x % (y : Int) * v) (z % (v : Int) * y) := eu_same (by omega) (by omega) h
end Go.Proofs.YtblefdgfmjegiaaGreatDoor

/- The examples of chapter 3; the laws WholeDivides, WholeSums, WholeProducts, WholeForms. -/
import Derived.Test.YtkggdkkfdbbglaaDoorG12
import Derived.Test.YtkggdkkfdbbglaaDoorG7
namespace Go.Proofs.YtkggdkkfdbbglaaDoor
open Go.RowKit Num
set_option linter.unusedVariables false
attribute [local go_sem] B_size B_get B_toList B_mk B_extract B_append
attribute [local go_sem high] run_max2

theorem ex_errI {a b : Str} (h1 : rightI a = true) (h2 : rightI b = true) (h3 : (mag a).length ≤ 4096) (h4 : (mag b).length ≤ 4096) : errI a b = 0 := errI_zero.2 ⟨h1, h2, h3, h4⟩
theorem ex_sub : subIS [51] [53] = [45, 50] ∧ subIE [51] [53] = 0 := by
  have he : errI [51] [53] = 0 := ex_errI (by decide) (by decide) (by decide) (by decide)
  have hr := res_of (s := [45, 50]) (z := valI [51] - valI [53]) (by decide) (by decide) (by decide)
  unfold subIS subIE; rw [if_pos he, if_pos he]; exact hr
theorem ex_div1 : divIQ [45, 55] [50] = [45, 52] ∧ divIR [45, 55] [50] = [49] ∧ divIE [45, 55] [50] = 0 := by
  have h := divI_ok (a := [45, 55]) (b := [50]) (ex_errI (by decide) (by decide) (by decide) (by decide)) (by decide)
  rw [h.1, h.2.1, h.2.2]
  exact ⟨decI_of (by decide) (by decide), decI_of (by decide) (by decide), rfl⟩
theorem ex_div2 : divIQ [55] [45, 50] = [45, 52] ∧ divIR [55] [45, 50] = [45, 49] ∧ divIE [55] [45, 50] = 0 := by
  have h := divI_ok (a := [55]) (b := [45, 50]) (ex_errI (by decide) (by decide) (by decide) (by decide)) (by decide)
  rw [h.1, h.2.1, h.2.2]
  exact ⟨decI_of (by decide) (by decide), decI_of (by decide) (by decide), rfl⟩
theorem ex_int : numV [57, 50, 50, 51, 51, 55, 50, 48, 51, 54, 56, 53, 52, 55, 55, 53, 56, 48, 56] = 0 ∧ numE [57, 50, 50, 51, 51, 55, 50, 48, 51, 54, 56, 53, 52, 55, 55, 53, 56, 48, 56] = 4 := by
  have h := num_big (s := [57, 50, 50, 51, 51, 55, 50, 48, 51, 54, 56, 53, 52, 55, 55, 53, 56, 48, 56]) (by decide) (by decide +kernel)
  exact ⟨h.2, h.1⟩
theorem ex_neg : negIS [48] = [48] ∧ errI [48] [48] = 0 := by
  have he : errI [48] [48] = 0 := ex_errI (by decide) (by decide) (by decide) (by decide)
  refine ⟨?_, he⟩
  unfold negIS; rw [if_pos he]; exact decI_of (by decide) (by decide)
theorem ex_div3 : divIQ [49] [48] = [] ∧ divIR [49] [48] = [] ∧ divIE [49] [48] = 10 := divI_zero (ex_errI (by decide) (by decide) (by decide) (by decide)) (by decide)
theorem ex_of : decI (-12) = [45, 49, 50] := decI_of (by decide) (by decide)
theorem ex_right : rightI [45, 48] = false := by decide

set_option maxHeartbeats 1000000 in
set_option maxRecDepth 100000 in
theorem examples_any (w : World) (ht : Tab w) (he : ErrV w) :
    Calls Tryd.prog 11 #[] w fun e w' => e = .returned (.bool true) ∧ Below w.heap.size w w' := by
  go_enter Tryd.func11, Tryd.ntmps11
  simp only [B_mk]
  go_wp2_with fail
  refine (psub_any [51] [53] w (by decide) (by decide) ht).mono ?_
  rw [ex_sub.1, ex_sub.2]
  rintro e w1 ⟨rfl, hb1⟩
  go_wp2_with fail
  refine (pdiv_any [45, 55] [50] w1 (by decide) (by decide) (ht.below hb1)).mono ?_
  rw [ex_div1.1, ex_div1.2.1, ex_div1.2.2]
  rintro e w2 ⟨rfl, hb2⟩
  have h2 := hb1.trans (hb2.mono hb1.size)
  go_wp2_with fail
  refine (pdiv_any [55] [45, 50] w2 (by decide) (by decide) (ht.below h2)).mono ?_
  rw [ex_div2.1, ex_div2.2.1, ex_div2.2.2]
  rintro e w3 ⟨rfl, hb3⟩
  have h3 := h2.trans (hb3.mono h2.size)
  go_wp2_with fail
  refine (wint_any [57, 50, 50, 51, 51, 55, 50, 48, 51, 54, 56, 53, 52, 55, 55, 53, 56, 48, 56] w3 (by decide) (he.below h3)).mono ?_
  rw [ex_int.1, ex_int.2]
  rintro e w4 ⟨rfl, hb4⟩
  have h4 := h3.trans (hb4.mono h3.size)
  go_wp2_with fail
  refine (pneg_any [48] w4 (by decide)).mono ?_
  rw [ex_neg.1, ex_neg.2]
  rintro e w5 ⟨rfl, hb5⟩
  have h5 := h4.trans (hb5.mono h4.size)
  go_wp2_with fail
  refine (pdiv_any [49] [48] w5 (by decide) (by decide) (ht.below h5)).mono ?_
  rw [ex_div3.1, ex_div3.2.1, ex_div3.2.2]
  rintro e w6 ⟨rfl, hb6⟩
  have h6 := h5.trans (hb6.mono h5.size)
  go_wp2_with fail
  refine (wof_any (-12) w6 (by decide) (ht.below h6)).mono ?_
  rw [ex_of]
  rintro e w7 ⟨rfl, hb7⟩
  have h7 := h6.trans (hb7.mono h6.size)
  go_wp2_with fail
  refine (wright_any [45, 48] w7 (by unfold maxLen; decide)).mono ?_
  rw [ex_right]
  rintro e w8 ⟨rfl, rfl⟩
  go_wp2_with fail
  go_ret
  exact ⟨rfl, h7⟩

theorem long_or (n k : Nat) : (k : Int) < (n : Int) ∨ ¬ (k : Int) < (n : Int) := by omega
set_option maxHeartbeats 1000000 in
theorem wholeDivides_walk (a b : List UInt8) (w : World) (hla : a.length ≤ maxLen) (hlb : b.length ≤ maxLen) (ht : Tab w) (he : ErrV w) :
    Calls Tryd.prog 3 #[.string (B a), .string (B b)] w fun e w' => e = .returned (.bool true) ∧ Below w.heap.size w w' := by
  by_cases h1 : 100 < a.length
  · have h1' : (100 : Int) < (a.length : Int) := by omega
    go_enter Tryd.func3, Tryd.ntmps3
    go_wp2_with fail
    refine (examples_any w ht he).mono ?_
    rintro e w1 ⟨rfl, hb1⟩
    go_wp2_with fail
    go_ret
    exact ⟨rfl, hb1⟩
  · have h1' : ¬ (100 : Int) < (a.length : Int) := by omega
    by_cases h2 : 100 < b.length
    · have h2' : (100 : Int) < (b.length : Int) := by omega
      go_enter Tryd.func3, Tryd.ntmps3
      go_wp2_with fail
      refine (examples_any w ht he).mono ?_
      rintro e w1 ⟨rfl, hb1⟩
      go_wp2_with fail
      go_ret
      exact ⟨rfl, hb1⟩
    · have h2' : ¬ (100 : Int) < (b.length : Int) := by omega
      have q1 : (divIQ a b == divIQ a b) = true := by simp
      have q2 : (divIR a b == divIR a b) = true := by simp
      have q3 : (divIE a b == divIE a b) = true := by simp
      have HP := Lib.hid (pdiv_any a b w (by omega) (by omega) ht)
      have HRf := Lib.hid (fun w => wrdiv_any a b w (by omega) (by omega))
      generalize divIQ a b = s1 at *
      generalize divIR a b = s2 at *
      generalize divIE a b = s3 at *
      go_enter Tryd.func3, Tryd.ntmps3
      go_wp2_with fail
      refine HP.out.mono ?_
      rintro e w1 ⟨rfl, hb1⟩
      go_wp2_with fail
      refine (HRf.out w1).mono ?_
      rintro e w2 ⟨rfl, hb2⟩
      have h3 := hb1.trans (hb2.mono hb1.size)
      go_wp2_with fail
      refine (examples_any w2 (ht.below h3) (he.below h3)).mono ?_
      rintro e w3 ⟨rfl, hb3⟩
      go_wp2_with fail
      go_ret
      exact ⟨rfl, h3.trans (hb3.mono h3.size)⟩
end Go.Proofs.YtkggdkkfdbbglaaDoor

/- awake, and the law NatCompares. -/
import Derived.Test.YtbjjbfefbkamoaaDoorRefD
namespace Go.Proofs.YtbjjbfefbkamoaaDoor
open Go.RowKit Num
set_option linter.unusedVariables false
attribute [local go_sem] B_size B_get B_toList B_mk B_extract B_append
attribute [local go_sem high] run_max2

theorem dec_is {n : Nat} {l : List UInt8} (h : right l = true) (hv : val l = n) : dec n = l := by rw [← hv, dec_val h]
theorem aw_add : addS [57, 57, 57] [49] = [49, 48, 48, 48] ∧ addE [57, 57, 57] [49] = 0 := by
  have he : errT [57, 57, 57] [49] = 0 := errT_zero.2 ⟨by decide, by decide, by decide, by decide⟩
  have hd : dec (val [57, 57, 57] + val [49]) = [49, 48, 48, 48] := dec_is (by decide) (by decide)
  rw [addS, addE, if_pos he, if_pos he, resS, resE, hd]; decide
theorem aw_div : divQ [49, 48, 48] [55] = [49, 52] ∧ divR [49, 48, 48] [55] = [50] ∧ divE [49, 48, 48] [55] = 0 := by
  have he : errT [49, 48, 48] [55] = 0 := errT_zero.2 ⟨by decide, by decide, by decide, by decide⟩
  have hE : divE [49, 48, 48] [55] = 0 := by rw [divE, if_pos he]; decide
  have hd : dec (val [49, 48, 48] / val [55]) = [49, 52] := dec_is (by decide) (by decide)
  have hr : dec (val [49, 48, 48] % val [55]) = [50] := dec_is (by decide) (by decide)
  exact ⟨by rw [divQ, if_pos hE, hd], by rw [divR, if_pos hE, hr], hE⟩
theorem aw_cmp : cmpT [57] [49, 48] = -1 := by decide
theorem aw_r1 : right [57, 48, 55] = true := by decide
theorem aw_r2 : right [48, 49] = false := by decide
theorem small_len {l : List UInt8} (h : l.length ≤ 100) : l.length ≤ maxLen := by unfold maxLen; omega

theorem awake_any (w : World) (ht : Tab w) :
    Calls Tryd.prog 9 #[] w fun e w' => e = .returned (.bool true) ∧ Below w.heap.size w w' := by
  go_enter Tryd.func9, Tryd.ntmps9
  simp only [B_mk]
  go_wp2_with fail
  refine (add_any _ _ _ (small_len (by decide)) (small_len (by decide)) ht).mono ?_
  rw [aw_add.1, aw_add.2]
  rintro e w1 ⟨rfl, hb1⟩
  go_wp2_with fail
  refine (div_any _ _ _ (small_len (by decide)) (small_len (by decide)) (ht.below hb1)).mono ?_
  rw [aw_div.1, aw_div.2.1, aw_div.2.2]
  rintro e w2 ⟨rfl, hb2⟩
  go_wp2_with fail
  refine (nat_compare_any _ _ _ (small_len (by decide)) (small_len (by decide))).mono ?_
  rw [aw_cmp]
  rintro e w3 ⟨rfl, hb3⟩
  go_wp2_with fail
  refine (right_any _ _ (small_len (by decide))).mono ?_
  rw [aw_r1]
  rintro e w' ⟨rfl, rfl⟩
  go_wp2_with fail
  refine (right_any _ _ (small_len (by decide))).mono ?_
  rw [aw_r2]
  rintro e w' ⟨rfl, rfl⟩
  go_wp2_with fail
  go_ret
  have h1 := hb1.trans (hb2.mono hb1.size)
  exact ⟨rfl, h1.trans (hb3.mono h1.size)⟩

theorem natCompares_walk (a b : List UInt8) (w : World) (ha : a.length ≤ maxLen) (hb : b.length ≤ maxLen) (ht : Tab w) :
    Calls Tryd.prog 3 #[.string (B a), .string (B b)] w fun e w' => e = .returned (.bool true) ∧ Below w.heap.size w w' := by
  by_cases hl : a.length ≤ 5000 ∧ b.length ≤ 5000
  · obtain ⟨h1, h2⟩ := hl
    have t1 : (right a == right a) = true := by simp
    have t2 : (cmpT a b == cmpT a b) = true := by simp
    have hsw := Lib.hid (cmpT_swap a b)
    have hc : -1 ≤ cmpT a b ∧ cmpT a b ≤ 1 := by unfold cmpT cmpI; split <;> (repeat' split) <;> omega
    go_enter Tryd.func3, Tryd.ntmps3
    go_wp2_with fail
    refine (right_any _ _ ha).mono ?_; rintro e w' ⟨rfl, rfl⟩
    go_wp2_with fail
    refine (ref_right_any _ _ ha).mono ?_; rintro e w' ⟨rfl, rfl⟩
    go_wp2_with fail
    refine (nat_compare_any _ _ _ ha hb).mono ?_; rintro e w1 ⟨rfl, hb1⟩
    go_wp2_with fail
    refine (ref_compare_any _ _ _ ha hb).mono ?_; rintro e w' ⟨rfl, rfl⟩
    go_wp2_with fail
    refine (nat_compare_any _ _ _ hb ha).mono ?_; rintro e w2 ⟨rfl, hb2⟩
    rw [hsw.out]
    go_wp2_with fail
    refine (nat_compare_any _ _ _ ha hb).mono ?_; rintro e w3 ⟨rfl, hb3⟩
    have t3 : (-cmpT a b == -cmpT a b) = true := by simp
    have h5 := hb1.trans (hb2.mono hb1.size)
    have h6 := h5.trans (hb3.mono h5.size)
    go_wp2_with fail
    refine (awake_any _ (ht.below h6)).mono ?_
    rintro e w4 ⟨rfl, hb4⟩
    go_wp2_with fail
    go_ret
    exact ⟨rfl, h6.trans (hb4.mono h6.size)⟩
  · unfold maxLen at ha hb
    by_cases h1 : 5000 < a.length
    · clear hl
      go_enter Tryd.func3, Tryd.ntmps3
      go_wp2_with fail
      refine (awake_any _ ht).mono ?_
      rintro e w4 ⟨rfl, hb4⟩
      go_wp2_with fail
      go_ret
      exact ⟨rfl, hb4⟩
    · have h2 : 5000 < b.length := by omega
      clear hl
      go_enter Tryd.func3, Tryd.ntmps3
      go_wp2_with fail
      refine (awake_any _ ht).mono ?_
      rintro e w4 ⟨rfl, hb4⟩
      go_wp2_with fail
      go_ret
      exact ⟨rfl, hb4⟩
end Go.Proofs.YtbjjbfefbkamoaaDoor

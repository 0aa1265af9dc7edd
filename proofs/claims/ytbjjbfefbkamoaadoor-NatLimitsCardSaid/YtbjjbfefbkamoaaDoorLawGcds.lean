/- The walk of the law NatGcds. -/
import Derived.Test.YtbjjbfefbkamoaaDoorLawMuls
namespace Go.Proofs.YtbjjbfefbkamoaaDoor
open Go.RowKit Num
set_option linter.unusedVariables false
attribute [local go_sem] B_size B_get B_toList B_mk B_extract B_append
attribute [local go_sem high] run_max2

theorem gcds_core (a b c : List UInt8) (w : World) (ha : a.length ≤ 30) (hb : b.length ≤ 30) (hc : c.length ≤ 30) (ht : Tab w) :
    Calls Tryd.prog 6 #[.string (B a), .string (B b), .string (B c)] w fun e w' => e = .returned (.bool true) ∧ Below w.heap.size w w' := by
  have n1 := neq_self (gcdS a b)
  have n2 : (gcdE a b != gcdE a b) = false := by simp
  by_cases hE : gcdE a b = 0
  · have he := gcdE_zero hE
    obtain ⟨h1, h2, h3, h4⟩ := errT_zero.1 he
    obtain ⟨x, rfl⟩ := (right_iff a).1 h1
    obtain ⟨y, rfl⟩ := (right_iff b).1 h2
    have hz : (gcdE (dec x) (dec y) != 0) = false := by simpa using hE
    have hg := gcdS_dec (p := x) (q := y) (by omega) (by omega)
    have hgl : (dec (Nat.gcd x y)).length ≤ 30 := by
      rcases Nat.eq_zero_or_pos x with h | h
      · rw [h, Nat.gcd_zero_left]; exact hb
      · exact Nat.le_trans (length_dec_mono (Nat.gcd_le_left _ h)) ha
    by_cases hrc : right c = true
    · obtain ⟨z, rfl⟩ := (right_iff c).1 hrc
      by_cases hg0 : Nat.gcd x y = 0
      · have hgz : (gcdS (dec x) (dec y) == [48]) = true := by rw [hg.1, hg0, dec_zero]; rfl
        clear hE he h1 h2 hg hg0
        go_enter Tryd.func6, Tryd.ntmps6
        simp only [B_mk]
        go_wp2_with fail
        refine (gcd_any _ _ _ (maxLen_of (by omega)) (maxLen_of (by omega)) ht).mono ?_
        rintro e w1 ⟨rfl, hb1⟩
        go_wp2_with fail
        refine (rgcd_any _ _ _ (maxLen_of (by omega)) (maxLen_of (by omega))).mono ?_
        rintro e w' ⟨rfl, rfl⟩
        go_wp2_with fail
        refine (ref_right_any _ _ (maxLen_of (by omega))).mono ?_
        rintro e w' ⟨rfl, rfl⟩
        rw [hrc]
        go_wp2_with fail
        refine (awake_any _ (ht.below hb1)).mono ?_
        rintro e w4 ⟨rfl, hb4⟩
        go_wp2_with fail
        go_ret
        exact ⟨rfl, hb1.trans (hb4.mono hb1.size)⟩
      · obtain ⟨g, hgg⟩ : ∃ g, Nat.gcd x y = g := ⟨_, rfl⟩
        rw [hgg] at hg hgl hg0
        have HG := Lib.hid hg.1
        have hgz : (gcdS (dec x) (dec y) == [48]) = false := by
          rw [hg.1, beq_eq_false_iff_ne]; intro e
          have := congrArg val e
          rw [val_dec] at this
          exact hg0 this
        have hdx : x % g = 0 := Nat.mod_eq_zero_of_dvd (hgg ▸ Nat.gcd_dvd_left x y)
        have hdy : y % g = 0 := Nat.mod_eq_zero_of_dvd (hgg ▸ Nat.gcd_dvd_right x y)
        have D1 := Lib.hid (show divR (dec x) (dec g) = [48] by rw [(divS_dec (p := x) (q := g) (by omega) (by omega) hg0).2.1, hdx, dec_zero])
        have D2 := Lib.hid (show divR (dec y) (dec g) = [48] by rw [(divS_dec (p := y) (q := g) (by omega) (by omega) hg0).2.1, hdy, dec_zero])
        have l1 := dec_len_mul x z
        have l2 := dec_len_mul y z
        have l3 := dec_len_mul g z
        have M1 := Lib.hid (show mulS (dec x) (dec z) = dec (x * z) by rw [(mulS_dec (p := x) (q := z) (by omega) (by omega)).1, (resS_small (n := x * z) (by omega)).1])
        have M2 := Lib.hid (show mulS (dec y) (dec z) = dec (y * z) by rw [(mulS_dec (p := y) (q := z) (by omega) (by omega)).1, (resS_small (n := y * z) (by omega)).1])
        have M3 := Lib.hid (show mulS (dec g) (dec z) = dec (g * z) by rw [(mulS_dec (p := g) (q := z) (by omega) (by omega)).1, (resS_small (n := g * z) (by omega)).1])
        have G2 := Lib.hid (show gcdS (dec (x * z)) (dec (y * z)) = dec (g * z) ∧ gcdE (dec (x * z)) (dec (y * z)) = 0 by
          have := gcdS_dec (p := x * z) (q := y * z) (by omega) (by omega)
          rw [Nat.gcd_mul_right, hgg] at this
          exact this)
        have e1 := eqb_self (dec (g * z))
        clear hE he h1 h2 hg hg0 hgg hdx hdy
        go_enter Tryd.func6, Tryd.ntmps6
        simp only [B_mk]
        go_wp2_with fail
        refine (gcd_any _ _ _ (maxLen_of (by omega)) (maxLen_of (by omega)) ht).mono ?_
        rintro e w1 ⟨rfl, hb1⟩
        go_wp2_with fail
        refine (rgcd_any _ _ _ (maxLen_of (by omega)) (maxLen_of (by omega))).mono ?_
        rintro e w' ⟨rfl, rfl⟩
        go_wp2_with fail
        refine (ref_right_any _ _ (maxLen_of (by omega))).mono ?_
        rintro e w' ⟨rfl, rfl⟩
        rw [hrc]
        go_wp2_with fail
        rw [HG.out]
        refine (rdiv_any _ _ _ (maxLen_of (by omega)) (maxLen_of (by omega))).mono ?_
        rintro e w' ⟨rfl, rfl⟩
        rw [D1.out]
        go_wp2_with fail
        refine (rdiv_any _ _ _ (maxLen_of (by omega)) (maxLen_of (by omega))).mono ?_
        rintro e w' ⟨rfl, rfl⟩
        rw [D2.out]
        go_wp2_with fail
        refine (rmul_any _ _ _ (maxLen_of (by omega)) (maxLen_of (by omega))).mono ?_
        rintro e w' ⟨rfl, rfl⟩
        rw [M1.out]
        go_wp2_with fail
        refine (rmul_any _ _ _ (maxLen_of (by omega)) (maxLen_of (by omega))).mono ?_
        rintro e w' ⟨rfl, rfl⟩
        rw [M2.out]
        go_wp2_with fail
        refine (rmul_any _ _ _ (maxLen_of (by omega)) (maxLen_of (by omega))).mono ?_
        rintro e w' ⟨rfl, rfl⟩
        rw [M3.out]
        go_wp2_with fail
        refine (gcd_any _ _ _ (maxLen_of (by omega)) (maxLen_of (by omega)) (ht.below hb1)).mono ?_
        rintro e w2 ⟨rfl, hb2⟩
        rw [G2.out.1, G2.out.2]
        have h5 := hb1.trans (hb2.mono hb1.size)
        go_wp2_with fail
        refine (awake_any _ (ht.below h5)).mono ?_
        rintro e w4 ⟨rfl, hb4⟩
        go_wp2_with fail
        go_ret
        exact ⟨rfl, h5.trans (hb4.mono h5.size)⟩
    · have hrc' : right c = false := by simpa using hrc
      clear hE hrc he h1 h2 hg
      go_enter Tryd.func6, Tryd.ntmps6
      simp only [B_mk]
      go_wp2_with fail
      refine (gcd_any _ _ _ (maxLen_of (by omega)) (maxLen_of (by omega)) ht).mono ?_
      rintro e w1 ⟨rfl, hb1⟩
      go_wp2_with fail
      refine (rgcd_any _ _ _ (maxLen_of (by omega)) (maxLen_of (by omega))).mono ?_
      rintro e w' ⟨rfl, rfl⟩
      go_wp2_with fail
      refine (ref_right_any _ _ (maxLen_of (by omega))).mono ?_
      rintro e w' ⟨rfl, rfl⟩
      rw [hrc']
      go_wp2_with fail
      refine (awake_any _ (ht.below hb1)).mono ?_
      rintro e w4 ⟨rfl, hb4⟩
      go_wp2_with fail
      go_ret
      exact ⟨rfl, hb1.trans (hb4.mono hb1.size)⟩
  · have hne : (gcdE a b != 0) = true := by simpa using hE
    clear hE
    go_enter Tryd.func6, Tryd.ntmps6
    simp only [B_mk]
    go_wp2_with fail
    refine (gcd_any _ _ _ (maxLen_of (by omega)) (maxLen_of (by omega)) ht).mono ?_
    rintro e w1 ⟨rfl, hb1⟩
    go_wp2_with fail
    refine (rgcd_any _ _ _ (maxLen_of (by omega)) (maxLen_of (by omega))).mono ?_
    rintro e w' ⟨rfl, rfl⟩
    go_wp2_with fail
    refine (awake_any _ (ht.below hb1)).mono ?_
    rintro e w4 ⟨rfl, hb4⟩
    go_wp2_with fail
    go_ret
    exact ⟨rfl, hb1.trans (hb4.mono hb1.size)⟩
theorem natGcds_walk (a b c : List UInt8) (w : World) (ha : a.length ≤ maxLen) (hb : b.length ≤ maxLen) (hc : c.length ≤ maxLen) (ht : Tab w) :
    Calls Tryd.prog 6 #[.string (B a), .string (B b), .string (B c)] w fun e w' => e = .returned (.bool true) ∧ Below w.heap.size w w' := by
  by_cases hl : a.length ≤ 30 ∧ b.length ≤ 30 ∧ c.length ≤ 30
  · exact gcds_core a b c w hl.1 hl.2.1 hl.2.2 ht
  · unfold maxLen at ha hb hc
    by_cases h1 : 30 < a.length
    · clear hl
      go_enter Tryd.func6, Tryd.ntmps6
      go_wp2_with fail
      refine (awake_any _ ht).mono ?_
      rintro e w4 ⟨rfl, hb4⟩
      go_wp2_with fail
      go_ret
      exact ⟨rfl, hb4⟩
    · by_cases h2 : 30 < b.length
      · clear hl
        go_enter Tryd.func6, Tryd.ntmps6
        go_wp2_with fail
        refine (awake_any _ ht).mono ?_
        rintro e w4 ⟨rfl, hb4⟩
        go_wp2_with fail
        go_ret
        exact ⟨rfl, hb4⟩
      · have h3 : 30 < c.length := by omega
        clear hl
        go_enter Tryd.func6, Tryd.ntmps6
        go_wp2_with fail
        refine (awake_any _ ht).mono ?_
        rintro e w4 ⟨rfl, hb4⟩
        go_wp2_with fail
        go_ret
        exact ⟨rfl, hb4⟩
end Go.Proofs.YtbjjbfefbkamoaaDoor

/- The walks of the laws NatDivides, NatAdds, NatGcds, NatMuls. -/
import Derived.Test.YtbjjbfefbkamoaaDoorLawCompares
namespace Go.Proofs.YtbjjbfefbkamoaaDoor
open Go.RowKit Num
set_option linter.unusedVariables false
attribute [local go_sem] B_size B_get B_toList B_mk B_extract B_append
attribute [local go_sem high] run_max2

theorem resS_small {n : Nat} (h : (dec n).length ≤ 4096) : resS n = dec n ∧ resE n = 0 := ⟨if_pos h, if_pos h⟩
theorem addS_dec {p q : Nat} (hp : (dec p).length ≤ 4096) (hq : (dec q).length ≤ 4096) : addS (dec p) (dec q) = resS (p + q) ∧ addE (dec p) (dec q) = resE (p + q) := by
  rw [addS, addE, if_pos (errT_dec hp hq), if_pos (errT_dec hp hq), val_dec, val_dec]; exact ⟨rfl, rfl⟩
theorem mulS_dec {p q : Nat} (hp : (dec p).length ≤ 4096) (hq : (dec q).length ≤ 4096) : mulS (dec p) (dec q) = resS (p * q) ∧ mulE (dec p) (dec q) = resE (p * q) := by
  rw [mulS, mulE, if_pos (errT_dec hp hq), if_pos (errT_dec hp hq), val_dec, val_dec]; exact ⟨rfl, rfl⟩
theorem subS_dec {p q : Nat} (hp : (dec p).length ≤ 4096) (hq : (dec q).length ≤ 4096) (h : q ≤ p) : subS (dec p) (dec q) = dec (p - q) ∧ subE (dec p) (dec q) = 0 := by
  have h1 : (dec (p - q)).length ≤ 4096 := Nat.le_trans (length_dec_mono (Nat.sub_le _ _)) hp
  rw [subS, subE, if_pos (errT_dec hp hq), if_pos (errT_dec hp hq), val_dec, val_dec, if_neg (by omega), if_neg (by omega)]; exact resS_small h1
theorem divS_dec {p q : Nat} (hp : (dec p).length ≤ 4096) (hq : (dec q).length ≤ 4096) (h : q ≠ 0) : divQ (dec p) (dec q) = dec (p / q) ∧ divR (dec p) (dec q) = dec (p % q) ∧ divE (dec p) (dec q) = 0 := by
  have hE : divE (dec p) (dec q) = 0 := by rw [divE, if_pos (errT_dec hp hq), val_dec, if_neg h]
  exact ⟨by rw [divQ, if_pos hE, val_dec, val_dec], by rw [divR, if_pos hE, val_dec, val_dec], hE⟩
theorem gcdS_dec {p q : Nat} (hp : (dec p).length ≤ 4096) (hq : (dec q).length ≤ 4096) : gcdS (dec p) (dec q) = dec (Nat.gcd p q) ∧ gcdE (dec p) (dec q) = 0 := by
  have he := errT_dec hp hq
  have hl := gcd_len he
  rw [val_dec, val_dec] at hl
  rw [gcdS, gcdE, if_pos he, if_pos he, val_dec, val_dec]; exact resS_small hl
theorem divE_zero {a b : List UInt8} (h : divE a b = 0) : right a = true ∧ right b = true ∧ a.length ≤ 4096 ∧ b.length ≤ 4096 ∧ val b ≠ 0 := by
  unfold divE at h
  by_cases he : errT a b = 0
  · rw [if_pos he] at h
    by_cases h0 : val b = 0
    · rw [if_pos h0] at h; cases h
    · obtain ⟨h1, h2, h3, h4⟩ := errT_zero.1 he
      exact ⟨h1, h2, h3, h4, h0⟩
  · rw [if_neg he] at h; exact absurd h he
theorem addE_zero {a b : List UInt8} (h : addE a b = 0) : errT a b = 0 := by
  unfold addE at h
  by_cases he : errT a b = 0
  · exact he
  · rw [if_neg he] at h; exact h
theorem mulE_zero {a b : List UInt8} (h : mulE a b = 0) : errT a b = 0 := by
  unfold mulE at h
  by_cases he : errT a b = 0
  · exact he
  · rw [if_neg he] at h; exact h
theorem gcdE_zero {a b : List UInt8} (h : gcdE a b = 0) : errT a b = 0 := by
  unfold gcdE at h
  by_cases he : errT a b = 0
  · exact he
  · rw [if_neg he] at h; exact h
theorem neq_self (l : List UInt8) : (!(l == l)) = false := by simp
theorem eqb_self (l : List UInt8) : (l == l) = true := by simp
theorem maxLen_of {l : List UInt8} (h : l.length ≤ 100000) : l.length ≤ maxLen := by unfold maxLen; omega

theorem divides_core (a b : List UInt8) (w : World) (ha : a.length ≤ 60) (hb : b.length ≤ 60) (ht : Tab w) :
    Calls Tryd.prog 4 #[.string (B a), .string (B b)] w fun e w' => e = .returned (.bool true) ∧ Below w.heap.size w w' := by
  by_cases hE : divE a b = 0
  · obtain ⟨h1, h2, h3, h4, h0⟩ := divE_zero hE
    obtain ⟨x, rfl⟩ := (right_iff a).1 h1
    obtain ⟨y, rfl⟩ := (right_iff b).1 h2
    rw [val_dec] at h0
    have hd := Lib.hid (divS_dec h3 h4 h0)
    have hql := length_dec_mono (Nat.div_le_self x y)
    have hrl := length_dec_mono (Nat.mod_le x y)
    have hpl := length_dec_mono (Nat.div_mul_le_self x y)
    have hm := Lib.hid (mulS_dec (p := x / y) (q := y) (by omega) h4)
    have hmr := Lib.hid (resS_small (n := x / y * y) (by omega))
    have hs := Lib.hid (addS_dec (p := x / y * y) (q := x % y) (by omega) (by omega))
    have hsx : x / y * y + x % y = x := by rw [Nat.mul_comm]; exact Nat.div_add_mod x y
    have HSX := Lib.hid hsx
    have hxr := Lib.hid (resS_small (n := x) (by omega))
    have hc : cmpT (dec (x % y)) (dec y) < 0 := by rw [cmpT_dec, cmpI_lt (by have := Nat.mod_lt x (show 0 < y by omega); omega)]; omega
    have hr1 := right_dec (x / y)
    have hr2 := right_dec (x % y)
    clear hE h0 hsx h1 h2
    go_enter Tryd.func4, Tryd.ntmps4
    go_wp2_with fail
    refine (div_any _ _ _ (maxLen_of (by omega)) (maxLen_of (by omega)) ht).mono ?_
    rintro e w1 ⟨rfl, hb1⟩
    rw [hd.out.1, hd.out.2.1, hd.out.2.2]
    go_wp2_with fail
    refine (rdiv_any _ _ _ (maxLen_of (by omega)) (maxLen_of (by omega))).mono ?_
    rintro e w' ⟨rfl, rfl⟩
    rw [hd.out.1, hd.out.2.1, hd.out.2.2]
    go_wp2_with fail
    refine (rmul_any _ _ _ (maxLen_of (by omega)) (maxLen_of (by omega))).mono ?_
    rintro e w' ⟨rfl, rfl⟩
    rw [hm.out.1, hmr.out.1]
    go_wp2_with fail
    refine (radd_any _ _ _ (maxLen_of (by omega)) (maxLen_of (by omega))).mono ?_
    rintro e w' ⟨rfl, rfl⟩
    rw [hs.out.1, HSX.out, hxr.out.1]
    go_wp2_with fail
    refine (ref_compare_any _ _ _ (maxLen_of (by omega)) (maxLen_of (by omega))).mono ?_
    rintro e w' ⟨rfl, rfl⟩
    go_wp2_with fail
    refine (right_any _ _ (maxLen_of (by omega))).mono ?_
    rintro e w' ⟨rfl, rfl⟩
    rw [hr1]
    go_wp2_with fail
    refine (right_any _ _ (maxLen_of (by omega))).mono ?_
    rintro e w' ⟨rfl, rfl⟩
    rw [hr2]
    go_wp2_with fail
    refine (awake_any _ (ht.below hb1)).mono ?_
    rintro e w4 ⟨rfl, hb4⟩
    go_wp2_with fail
    go_ret
    exact ⟨rfl, hb1.trans (hb4.mono hb1.size)⟩
  · have hne : (divE a b != 0) = true := by simpa using hE
    clear hE
    go_enter Tryd.func4, Tryd.ntmps4
    go_wp2_with fail
    refine (div_any _ _ _ (maxLen_of (by omega)) (maxLen_of (by omega)) ht).mono ?_
    rintro e w1 ⟨rfl, hb1⟩
    go_wp2_with fail
    refine (rdiv_any _ _ _ (maxLen_of (by omega)) (maxLen_of (by omega))).mono ?_
    rintro e w' ⟨rfl, rfl⟩
    have n1 := neq_self (divQ a b)
    have n2 := neq_self (divR a b)
    have n3 : (divE a b != divE a b) = false := by simp
    go_wp2_with fail
    refine (awake_any _ (ht.below hb1)).mono ?_
    rintro e w4 ⟨rfl, hb4⟩
    go_wp2_with fail
    go_ret
    exact ⟨rfl, hb1.trans (hb4.mono hb1.size)⟩
theorem natDivides_walk (a b : List UInt8) (w : World) (ha : a.length ≤ maxLen) (hb : b.length ≤ maxLen) (ht : Tab w) :
    Calls Tryd.prog 4 #[.string (B a), .string (B b)] w fun e w' => e = .returned (.bool true) ∧ Below w.heap.size w w' := by
  by_cases hl : a.length ≤ 60 ∧ b.length ≤ 60
  · exact divides_core a b w hl.1 hl.2 ht
  · unfold maxLen at ha hb
    by_cases h1 : 60 < a.length
    · clear hl
      go_enter Tryd.func4, Tryd.ntmps4
      go_wp2_with fail
      refine (awake_any _ ht).mono ?_
      rintro e w4 ⟨rfl, hb4⟩
      go_wp2_with fail
      go_ret
      exact ⟨rfl, hb4⟩
    · have h2 : 60 < b.length := by omega
      clear hl
      go_enter Tryd.func4, Tryd.ntmps4
      go_wp2_with fail
      refine (awake_any _ ht).mono ?_
      rintro e w4 ⟨rfl, hb4⟩
      go_wp2_with fail
      go_ret
      exact ⟨rfl, hb4⟩
end Go.Proofs.YtbjjbfefbkamoaaDoor

/- The reference's Add, Sub, Mul, Div, Gcd. -/
import Derived.Test.YtbjjbfefbkamoaaDoorRefB
import Derived.Test.YtbjjbfefbkamoaaDoorDiv
namespace Go.Proofs.YtbjjbfefbkamoaaDoor
open Go.RowKit Num
set_option linter.unusedVariables false
attribute [local go_sem] B_size B_get B_toList B_mk B_extract B_append
attribute [local go_sem high] run_max2

theorem dec_len_4096 {n : Nat} {a : List UInt8} (h : right a = true) (hl : a.length ≤ 4096) (hn : n ≤ val a) : (dec n).length ≤ 4096 := by
  have := length_dec_mono hn; rw [dec_val h] at this; omega

theorem radd_any (a b : List UInt8) (w : World) (ha : a.length ≤ maxLen) (hb : b.length ≤ maxLen) :
    Calls Tryd.prog 17 #[.string (B a), .string (B b)] w fun e w' => e = .returned (.tuple #[.string (B (addS a b)), .int .i64 (addE a b)]) ∧ w' = w := by
  by_cases he : errT a b = 0
  · obtain ⟨h1, h2, h3, h4⟩ := errT_zero.1 he
    have HR := Lib.hid (show addS a b = resS (val a + val b) ∧ addE a b = resE (val a + val b) from ⟨if_pos he, if_pos he⟩)
    have hz : (errT a b != 0) = false := by simpa using he
    have hl := dec_len_add (val a) (val b)
    rw [dec_val h1, dec_val h2] at hl
    have hs := sum_any (val a) (val b) w (by rw [dec_val h1]; omega) (by rw [dec_val h2]; omega)
    rw [dec_val h1, dec_val h2] at hs
    have HS := Lib.hid hs
    clear he hs
    go_enter Tryd.func17, Tryd.ntmps17
    simp only [B_mk]
    go_wp2_with fail
    refine (wrong_any a b _ ha hb).mono ?_; rintro e w' ⟨rfl, rfl⟩
    go_wp2_with fail
    refine HS.out.mono ?_; rintro e w' ⟨rfl, rfl⟩
    go_wp2_with fail
    refine (sized_any _ _ (by unfold maxLen; omega)).mono ?_; rintro e w' ⟨rfl, rfl⟩
    go_wp2_with fail
    go_ret2
    exact ⟨by rw [HR.out.1, HR.out.2]; rfl, rfl⟩
  · have HR := Lib.hid (show addS a b = [] ∧ addE a b = errT a b from ⟨if_neg he, if_neg he⟩)
    have hne : (errT a b != 0) = true := by simpa using he
    clear he
    go_enter Tryd.func17, Tryd.ntmps17
    simp only [B_mk]
    go_wp2_with fail
    refine (wrong_any a b _ ha hb).mono ?_; rintro e w' ⟨rfl, rfl⟩
    go_wp2_with fail
    go_ret2
    exact ⟨by rw [HR.out.1, HR.out.2]; rfl, rfl⟩

theorem rsub_any (a b : List UInt8) (w : World) (ha : a.length ≤ maxLen) (hb : b.length ≤ maxLen) :
    Calls Tryd.prog 20 #[.string (B a), .string (B b)] w fun e w' => e = .returned (.tuple #[.string (B (subS a b)), .int .i64 (subE a b)]) ∧ w' = w := by
  by_cases he : errT a b = 0
  · obtain ⟨h1, h2, h3, h4⟩ := errT_zero.1 he
    have hz : (errT a b != 0) = false := by simpa using he
    by_cases hlt : val a < val b
    · have HR := Lib.hid (show subS a b = [] ∧ subE a b = 2 from ⟨by rw [subS, if_pos he, if_pos hlt], by rw [subE, if_pos he, if_pos hlt]⟩)
      have hc : cmpT a b = -1 := by rw [cmpT_right h1 h2, cmpI_lt (by omega)]
      have HC := Lib.hid hc
      clear he hlt hc
      go_enter Tryd.func20, Tryd.ntmps20
      simp only [B_mk]
      go_wp2_with fail
      refine (wrong_any a b _ ha hb).mono ?_; rintro e w' ⟨rfl, rfl⟩
      go_wp2_with fail
      refine (ref_compare_any a b _ ha hb).mono ?_; rintro e w' ⟨rfl, rfl⟩
      rw [HC.out]
      go_wp2_with fail
      go_ret2
      exact ⟨by rw [HR.out.1, HR.out.2]; rfl, rfl⟩
    · have HR := Lib.hid (show subS a b = resS (val a - val b) ∧ subE a b = resE (val a - val b) from ⟨by rw [subS, if_pos he, if_neg hlt], by rw [subE, if_pos he, if_neg hlt]⟩)
      have hc : 0 ≤ cmpT a b := by rw [cmpT_right h1 h2]; unfold cmpI; rw [if_neg (by omega)]; split <;> omega
      have hs := less_any (val a) (val b) w (by rw [dec_val h1]; omega) (by omega)
      rw [dec_val h1, dec_val h2] at hs
      have HS := Lib.hid hs
      have hl := dec_len_4096 (n := val a - val b) h1 h3 (by omega)
      clear he hlt hs
      go_enter Tryd.func20, Tryd.ntmps20
      simp only [B_mk]
      go_wp2_with fail
      refine (wrong_any a b _ ha hb).mono ?_; rintro e w' ⟨rfl, rfl⟩
      go_wp2_with fail
      refine (ref_compare_any a b _ ha hb).mono ?_; rintro e w' ⟨rfl, rfl⟩
      go_wp2_with fail
      refine HS.out.mono ?_; rintro e w' ⟨rfl, rfl⟩
      go_wp2_with fail
      refine (sized_any _ _ (by unfold maxLen; omega)).mono ?_; rintro e w' ⟨rfl, rfl⟩
      go_wp2_with fail
      go_ret2
      exact ⟨by rw [HR.out.1, HR.out.2]; rfl, rfl⟩
  · have HR := Lib.hid (show subS a b = [] ∧ subE a b = errT a b from ⟨if_neg he, if_neg he⟩)
    have hne : (errT a b != 0) = true := by simpa using he
    clear he
    go_enter Tryd.func20, Tryd.ntmps20
    simp only [B_mk]
    go_wp2_with fail
    refine (wrong_any a b _ ha hb).mono ?_; rintro e w' ⟨rfl, rfl⟩
    go_wp2_with fail
    go_ret2
    exact ⟨by rw [HR.out.1, HR.out.2]; rfl, rfl⟩

theorem dec_mul10_all (v : Nat) : (dec v ++ [48]).all isDig = true := by rw [List.all_append, dec_all]; rfl
theorem val_mul10 (v : Nat) : val (dec v ++ [48]) = 10 * v := by rw [val_snoc, val_dec]; rfl
theorem val_take_succ (l : List UInt8) (i : Nat) (h : i < l.length) : val (l.take (i + 1)) = 10 * val (l.take i) + dv (at8 l i) := by
  rw [List.take_succ_eq_append_getElem h, val_snoc, at8_eq l i h]
theorem dec_len_mul (x y : Nat) : (dec (x * y)).length ≤ (dec x).length + (dec y).length := by
  refine (length_dec_le (by have := length_dec_pos x; omega)).2 ?_
  rw [Nat.pow_add]
  exact Nat.mul_lt_mul'' (dec_lt_len x) (dec_lt_len y)
theorem dec_len_take {l : List UInt8} (h : l.all isDig = true) (i : Nat) (hi : i ≤ l.length) (h0 : 0 < l.length) : (dec (val (l.take i))).length ≤ l.length := by
  refine (length_dec_le h0).2 ?_
  have h1 := val_lt _ (show (l.take i).all isDig = true by have := all_sub h 0 i; simpa using this)
  rw [List.length_take, Nat.min_eq_left hi] at h1
  exact Nat.lt_of_lt_of_le h1 (Nat.pow_le_pow_right (by omega) hi)

set_option maxHeartbeats 1000000 in
theorem rmul_any (a b : List UInt8) (w : World) (ha : a.length ≤ maxLen) (hb : b.length ≤ maxLen) :
    Calls Tryd.prog 16 #[.string (B a), .string (B b)] w fun e w' => e = .returned (.tuple #[.string (B (mulS a b)), .int .i64 (mulE a b)]) ∧ w' = w := by
  by_cases he : errT a b = 0
  · obtain ⟨h1, h2, h3, h4⟩ := errT_zero.1 he
    have HR := Lib.hid (show mulS a b = resS (val a * val b) ∧ mulE a b = resE (val a * val b) from ⟨if_pos he, if_pos he⟩)
    have hz : (errT a b != 0) = false := by simpa using he
    obtain ⟨x, rfl⟩ := (right_iff a).1 h1
    rw [val_dec] at HR
    have hbd := right_all h2
    have hb0 : 0 < b.length := List.length_pos_iff.2 (right_ne h2)
    have hlx : ∀ v, (dec (x * v)).length ≤ (dec x).length + (dec v).length := fun v => dec_len_mul x v
    have HLX := Lib.hid hlx
    clear he hlx
    go_enter Tryd.func16, Tryd.ntmps16
    simp only [B_mk]
    go_wp2_with fail
    refine (wrong_any (dec x) b _ ha hb).mono ?_; rintro e w' ⟨rfl, rfl⟩
    go_wp2_with fail
    go_loopw [7, 8] (fun o i wr => ∃ k : Nat, k ≤ b.length ∧ i = .int .i64 k ∧ o = .string (B (dec (x * val (b.take k)))) ∧ wr = w') (fun _ i _ => b.length - (intOf i).toNat)
    case atStart => exact ⟨0, Nat.zero_le _, rfl, by simp [val, dec_zero], rfl⟩
    case round =>
      obtain ⟨k, hk, rfl, rfl, rfl⟩ := hrel
      have hv := HLX.out (val (b.take k))
      have hv2 := dec_len_take hbd k hk hb0
      by_cases hgo : k < b.length
      · have hdg := dig_of_all hbd hgo
        have hd1 : 48 ≤ ((at8 b k).toNat : Int) := by omega
        have hd2 : ((at8 b k).toNat : Int) ≤ 57 := by omega
        have HS := Lib.hid (val_take_succ b k hgo)
        have hlm := dec_len_mul (dv (at8 b k)) x
        have hld : (dec (dv (at8 b k))).length ≤ 1 := (length_dec_le (by omega)).2 (by unfold dv; omega)
        clear hdg
        generalize hV : val (b.take k) = V at *
        have HVV := Lib.hid hV
        clear hV
        have hl10 : (dec (10 * (x * V))).length ≤ 20000 := by
          have h9 := dec_len_mul 10 (x * V)
          have : (dec 10).length ≤ 2 := (length_dec_le (by omega)).2 (by omega)
          omega
        go_wp2_with fail
        refine (rtrim_any _ _ (dec_mul10_all _) (by simp) (by simp; omega)).mono ?_; rintro e w' ⟨rfl, rfl⟩
        rw [val_mul10]
        go_wp2_with fail
        have e1 : ((at8 b k).toNat : Int) - 48 = ((dv (at8 b k) : Nat) : Int) := by unfold dv; omega
        rw [e1]
        refine (rtimes_any x (dv (at8 b k)) _ (by omega) (by unfold dv; omega)).mono ?_; rintro e w' ⟨rfl, rfl⟩
        clear e1
        go_wp2_with fail
        refine (sum_any (10 * (x * V)) (dv (at8 b k) * x) _ (by omega) (by omega)).mono ?_; rintro e w' ⟨rfl, rfl⟩
        go_wp2_with fail
        go_roundw
        case rel =>
          refine ⟨k + 1, by omega, by go_num, ?_, by trivial⟩
          rw [HS.out, Nat.mul_add, Nat.mul_comm x (dv _), Nat.mul_left_comm x 10]
        case measure => simp [intOf]; omega
      · obtain rfl : k = b.length := by omega
        have HT := Lib.hid (show x * val (b.take b.length) = x * val b by rw [List.take_of_length_le (Nat.le_refl _)])
        rw [HT.out] at hv ⊢
        have hl2 : (dec (val b)).length = b.length := by rw [dec_val h2]
        have HL2 := Lib.hid (Nat.le_of_eq hl2)
        have hlf : (dec (x * val b)).length ≤ 20000 := by have := HLX.out (val b); omega
        clear hv hv2 hl2
        go_wp2_with fail
        refine (sized_any _ _ (by unfold maxLen; omega)).mono ?_; rintro e w' ⟨rfl, rfl⟩
        go_wp2_with fail
        go_ret2
        exact ⟨by rw [HR.out.1, HR.out.2]; rfl, rfl⟩
  · have HR := Lib.hid (show mulS a b = [] ∧ mulE a b = errT a b from ⟨if_neg he, if_neg he⟩)
    have hne : (errT a b != 0) = true := by simpa using he
    clear he
    go_enter Tryd.func16, Tryd.ntmps16
    simp only [B_mk]
    go_wp2_with fail
    refine (wrong_any a b _ ha hb).mono ?_; rintro e w' ⟨rfl, rfl⟩
    go_wp2_with fail
    go_ret2
    exact ⟨by rw [HR.out.1, HR.out.2]; rfl, rfl⟩
end Go.Proofs.YtbjjbfefbkamoaaDoor

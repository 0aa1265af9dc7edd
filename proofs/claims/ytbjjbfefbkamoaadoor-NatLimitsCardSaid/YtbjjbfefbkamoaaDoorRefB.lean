/- The reference's sum, less, times. -/
import Derived.Test.YtbjjbfefbkamoaaDoorRefA
namespace Go.Proofs.YtbjjbfefbkamoaaDoor
open Go.RowKit Num
set_option linter.unusedVariables false
attribute [local go_sem] B_size B_get B_toList B_mk B_extract B_append
attribute [local go_sem high] run_max2

theorem dec_len_add (x y : Nat) : (dec (x + y)).length ≤ max (dec x).length (dec y).length + 1 := by
  have h1 := dec_lt_len x
  have h2 := dec_lt_len y
  have h3 : 10 ^ (dec x).length ≤ 10 ^ max (dec x).length (dec y).length := Nat.pow_le_pow_right (by omega) (by omega)
  have h4 : 10 ^ (dec y).length ≤ 10 ^ max (dec x).length (dec y).length := Nat.pow_le_pow_right (by omega) (by omega)
  refine (length_dec_le (by omega)).2 ?_
  rw [Nat.pow_succ]; omega

set_option maxHeartbeats 1000000 in
theorem sum_any (x y : Nat) (w : World) (hx : (dec x).length ≤ 100000000) (hy : (dec y).length ≤ 100000000) :
    Calls Tryd.prog 34 #[.string (B (dec x)), .string (B (dec y))] w fun e w' => e = .returned (.string (B (dec (x + y)))) ∧ w' = w := by
  have HE := Lib.hid (sum_end x y)
  have hax := dec_all x
  have hay := dec_all y
  have hvx := Lib.hid (val_dec x)
  have hvy := Lib.hid (val_dec y)
  have H0 := Lib.hid (sum_zero x y)
  generalize dec x = a at *
  generalize dec y = b at *
  go_enter Tryd.func34, Tryd.ntmps34
  go_wp2_with fail
  simp only [B_mk]
  go_loopw [5, 6, 7, 8] (fun o cr i _ wr => ∃ k : Nat, k ≤ max a.length b.length ∧ i = .int .i64 k ∧ o = .string (B (sumOut x y k)) ∧ cr = .int .i64 (sumCarry x y k : Nat) ∧ wr = w) (fun _ _ i _ _ => max a.length b.length - (intOf i).toNat)
  case atStart => exact ⟨0, Nat.zero_le _, rfl, by rw [H0.out.1], by rw [H0.out.2]; rfl, rfl⟩
  case round =>
    obtain ⟨k, hk, rfl, rfl, rfl, rfl⟩ := hrel
    have hol : (sumOut x y k).length = k := digs_length _ _
    have hcl := sumCarry_le x y k
    by_cases hgo : k < max a.length b.length
    · have HS := Lib.hid (sum_step x y k)
      have hd1 := dg_lt x k
      have hd2 := dg_lt y k
      have hOL := Lib.hid hol
      have hol2 : (sumOut x y k).length ≤ 100000000 := by omega
      clear hol
      by_cases hka : k < a.length
      all_goals
        go_wp2_with fail
        refine (rdigit_any a k _ hax (by omega) (by omega)).mono ?_; rintro e w' ⟨rfl, rfl⟩
        rw [hvx.out]
        go_wp2_with fail
        refine (rdigit_any b k _ hay (by omega) (by omega)).mono ?_; rintro e w' ⟨rfl, rfl⟩
        rw [hvy.out]
        go_wp2_with fail
        have e1 : ((dg x k : Int) + (dg y k : Int) + (sumCarry x y k : Int)) % 10 = (((dg x k + dg y k + sumCarry x y k) % 10 : Nat) : Int) := by omega
        rw [e1]
        refine (letter_any _ _ (by omega)).mono ?_; rintro e w' ⟨rfl, rfl⟩
        clear e1
        go_wp2_with fail
        go_roundw
        case rel => exact ⟨k + 1, by omega, by go_num, by rw [HS.out.1], by rw [HS.out.2]; go_num, by trivial⟩
        case measure => simp [intOf]; omega
    · obtain rfl : k = max a.length b.length := by omega
      have hka : ¬ max a.length b.length < a.length := by omega
      have hkb : ¬ max a.length b.length < b.length := by omega
      have HMX := Lib.hid hol
      have hol2 : (sumOut x y (max a.length b.length)).length ≤ 100000000 := by omega
      clear hol hgo
      generalize max a.length b.length = L at *
      by_cases hc : 0 < sumCarry x y L
      · have HF := Lib.hid (show dch (sumCarry x y L) :: sumOut x y L = dec (x + y) by have := HE.out; rw [if_pos hc] at this; exact this)
        go_wp2_with fail
        refine (letter_any _ _ (by omega)).mono ?_; rintro e w' ⟨rfl, rfl⟩
        go_wp2_with fail
        go_ret
        exact ⟨ret_str (by rw [← HF.out]), rfl⟩
      · have HF := Lib.hid (show sumOut x y L = dec (x + y) by have := HE.out; rw [if_neg hc] at this; exact this)
        go_wp2_with fail
        go_ret
        exact ⟨ret_str HF.out, rfl⟩

/-- the difference of the reference, any two numbers of which the first is not less -/
theorem less_any (x y : Nat) (w : World) (hx : (dec x).length ≤ 100000000) (hyx : y ≤ x) :
    Calls Tryd.prog 32 #[.string (B (dec x)), .string (B (dec y))] w fun e w' => e = .returned (.string (B (dec (x - y)))) ∧ w' = w := by
  have hy : (dec y).length ≤ (dec x).length := length_dec_mono hyx
  have hax := dec_all x
  have hay := dec_all y
  have hvx := Lib.hid (val_dec x)
  have hvy := Lib.hid (val_dec y)
  have hlx := Lib.hid (dec_lt_len x)
  have hpos := length_dec_pos x
  generalize dec x = a at *
  generalize dec y = b at *
  go_enter Tryd.func32, Tryd.ntmps32
  simp only [B_mk]
  go_wp2_with fail
  go_loopw [5, 6, 7, 8] (fun o cr i _ wr => ∃ k t br : Nat, k ≤ a.length ∧ i = .int .i64 k ∧ o = .string (B (digs k t)) ∧ cr = .int .i64 br ∧ br ≤ 1 ∧ t < 10 ^ k ∧ x % 10 ^ k + 10 ^ k * br = y % 10 ^ k + t ∧ wr = w) (fun _ _ i _ _ => a.length - (intOf i).toNat)
  case atStart => exact ⟨0, 0, 0, Nat.zero_le _, rfl, rfl, rfl, by omega, by simp, by simp [Nat.mod_one], rfl⟩
  case round =>
    obtain ⟨k, t, br, hk, rfl, rfl, rfl, hbr, ht, hv, rfl⟩ := hrel
    have hol : (digs k t).length = k := digs_length _ _
    by_cases hgo : k < a.length
    · have HS := Lib.hid (fun d br' h => less_step x y k t br d br' hv h)
      have HT := Lib.hid ht
      have hd1 := dg_lt x k
      have hd2 := dg_lt y k
      have hol2 : (digs k t).length ≤ 100000000 := by omega
      have hdl : ∀ d, d < 10 → digs (k + 1) (d * 10 ^ k + t) = dch d :: digs k t := fun d hd => digs_front k d t hd ht
      have HDL := Lib.hid hdl
      clear hol hv ht hdl
      by_cases hneg : dg x k < dg y k + br
      · go_wp2_with fail
        refine (rdigit_any a k _ hax (by omega) (by omega)).mono ?_; rintro e w' ⟨rfl, rfl⟩
        rw [hvx.out]
        go_wp2_with fail
        refine (rdigit_any b k _ hay (by omega) (by omega)).mono ?_; rintro e w' ⟨rfl, rfl⟩
        rw [hvy.out]
        have hn1 : (dg x k : Int) - (dg y k : Int) - (br : Int) < 0 := by omega
        go_wp2_with fail
        have e1 : (dg x k : Int) - (dg y k : Int) - (br : Int) + 10 = ((dg x k + 10 - dg y k - br : Nat) : Int) := by omega
        rw [e1]
        refine (letter_any _ _ (by omega)).mono ?_; rintro e w' ⟨rfl, rfl⟩
        clear e1
        go_wp2_with fail
        go_roundw
        case rel => exact ⟨k + 1, (dg x k + 10 - dg y k - br) * 10 ^ k + t, 1, by omega, by go_num, by rw [HDL.out _ (by omega)], rfl, by omega, digs_lt_step _ _ _ (by omega) HT.out, HS.out _ 1 (by omega), by trivial⟩
        case measure => simp [intOf]; omega
      · go_wp2_with fail
        refine (rdigit_any a k _ hax (by omega) (by omega)).mono ?_; rintro e w' ⟨rfl, rfl⟩
        rw [hvx.out]
        go_wp2_with fail
        refine (rdigit_any b k _ hay (by omega) (by omega)).mono ?_; rintro e w' ⟨rfl, rfl⟩
        rw [hvy.out]
        have hn1 : 0 ≤ (dg x k : Int) - (dg y k : Int) - (br : Int) := by omega
        go_wp2_with fail
        have e1 : (dg x k : Int) - (dg y k : Int) - (br : Int) = ((dg x k - dg y k - br : Nat) : Int) := by omega
        rw [e1]
        refine (letter_any _ _ (by omega)).mono ?_; rintro e w' ⟨rfl, rfl⟩
        clear e1
        go_wp2_with fail
        go_roundw
        case rel => exact ⟨k + 1, (dg x k - dg y k - br) * 10 ^ k + t, 0, by omega, by go_num, by rw [HDL.out _ (by omega)], rfl, by omega, digs_lt_step _ _ _ (by omega) HT.out, HS.out _ 0 (by omega), by trivial⟩
        case measure => simp [intOf]; omega
    · obtain rfl : k = a.length := by omega
      have hres : t = x - y := by
        have h1 := hlx.out
        rw [Nat.mod_eq_of_lt h1, Nat.mod_eq_of_lt (by omega)] at hv
        rcases Nat.lt_or_ge 0 br with hb | hb
        · have : br = 1 := by omega
          subst this; omega
        · have : br = 0 := by omega
          subst this; omega
      have HR := Lib.hid hres
      have HV := Lib.hid (val_digs _ _ ht)
      clear hv ht hres
      go_wp2_with fail
      refine (rtrim_any _ _ (digs_all _ _) (by omega) (by omega)).mono ?_; rintro e w' ⟨rfl, rfl⟩
      go_wp2_with fail
      go_ret
      exact ⟨ret_str (by rw [HV.out, HR.out]), rfl⟩

theorem rtimes_any (x n : Nat) (w : World) (hx : (dec x).length ≤ 10000000) (hn : n < 10) :
    Calls Tryd.prog 35 #[.string (B (dec x)), .int .i64 n] w fun e w' => e = .returned (.string (B (dec (n * x)))) ∧ w' = w := by
  have hl : ∀ k, k ≤ n → (dec (k * x)).length ≤ (dec x).length + 1 := by
    intro k hk
    refine (length_dec_le (by omega)).2 ?_
    have h1 := dec_lt_len x
    have h2 : k * x ≤ 10 * x := Nat.mul_le_mul_right x (by omega)
    rw [Nat.pow_succ]; omega
  have HL := Lib.hid hl
  clear hl
  go_enter Tryd.func35, Tryd.ntmps35
  simp only [B_mk]
  go_wp2_with fail
  go_loopw [5, 6] (fun o i wr => ∃ k : Nat, k ≤ n ∧ i = .int .i64 k ∧ o = .string (B (dec (k * x))) ∧ wr = w) (fun _ i _ => n - (intOf i).toNat)
  case atStart => exact ⟨0, Nat.zero_le _, rfl, by rw [Nat.zero_mul, dec_zero], rfl⟩
  case round =>
    obtain ⟨k, hk, rfl, rfl, rfl⟩ := hrel
    by_cases hgo : k < n
    · have h1 := HL.out k hk
      go_wp2_with fail
      refine (sum_any (k * x) x _ (by omega) (by omega)).mono ?_; rintro e w' ⟨rfl, rfl⟩
      go_wp2_with fail
      go_roundw
      case rel => exact ⟨k + 1, by omega, by go_num, by rw [Nat.add_mul, Nat.one_mul], by trivial⟩
      case measure => simp [intOf]; omega
    · obtain rfl : k = n := by omega
      go_wp2_with fail
      go_ret
      exact ⟨rfl, rfl⟩
end Go.Proofs.YtbjjbfefbkamoaaDoor

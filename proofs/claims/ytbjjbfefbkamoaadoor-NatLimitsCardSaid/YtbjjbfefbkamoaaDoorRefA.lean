/- The reference's arithmetic: wrong, sized, digit, trim, letter, sum, less, times. -/
import Derived.Test.YtbjjbfefbkamoaaDoorRNum
import Derived.Test.YtbjjbfefbkamoaaDoorCompare
import Derived.Test.YtbjjbfefbkamoaaDoorNMul
namespace Go.Proofs.YtbjjbfefbkamoaaDoor
open Go.RowKit Num
set_option linter.unusedVariables false
attribute [local go_sem] B_size B_get B_toList B_mk B_extract B_append
attribute [local go_sem high] run_max2

theorem wrong_any (a b : List UInt8) (w : World) (ha : a.length ≤ maxLen) (hb : b.length ≤ maxLen) :
    Calls Tryd.prog 30 #[.string (B a), .string (B b)] w fun e w' => e = .returned (.int .i64 (errT a b)) ∧ w' = w := by
  cases h1 : right a
  · have HR := Lib.hid (show errT a b = 3 by rw [errT, if_neg (by simp [h1])])
    go_enter Tryd.func30, Tryd.ntmps30
    go_wp2_with fail
    refine (ref_right_any _ _ ha).mono ?_; rintro e w' ⟨rfl, rfl⟩
    go_wp2_with fail
    go_ret
    exact ⟨ret_int HR.out.symm, rfl⟩
  · cases h2 : right b
    · have HR := Lib.hid (show errT a b = 3 by rw [errT, if_neg (by simp [h2])])
      go_enter Tryd.func30, Tryd.ntmps30
      go_wp2_with fail
      refine (ref_right_any _ _ ha).mono ?_; rintro e w' ⟨rfl, rfl⟩
      go_wp2_with fail
      refine (ref_right_any _ _ hb).mono ?_; rintro e w' ⟨rfl, rfl⟩
      go_wp2_with fail
      go_ret
      exact ⟨ret_int HR.out.symm, rfl⟩
    · unfold maxLen at ha hb
      by_cases h4 : 4096 < a.length
      · have HR := Lib.hid (show errT a b = 4 by rw [errT, if_pos ⟨h1, h2⟩, if_neg (by omega)])
        go_enter Tryd.func30, Tryd.ntmps30
        go_wp2_with fail
        refine (ref_right_any _ _ ha).mono ?_; rintro e w' ⟨rfl, rfl⟩
        go_wp2_with fail
        refine (ref_right_any _ _ hb).mono ?_; rintro e w' ⟨rfl, rfl⟩
        go_wp2_with fail
        go_ret
        exact ⟨ret_int HR.out.symm, rfl⟩
      · by_cases h5 : 4096 < b.length
        · have HR := Lib.hid (show errT a b = 4 by rw [errT, if_pos ⟨h1, h2⟩, if_neg (by omega)])
          go_enter Tryd.func30, Tryd.ntmps30
          go_wp2_with fail
          refine (ref_right_any _ _ ha).mono ?_; rintro e w' ⟨rfl, rfl⟩
          go_wp2_with fail
          refine (ref_right_any _ _ hb).mono ?_; rintro e w' ⟨rfl, rfl⟩
          go_wp2_with fail
          go_ret
          exact ⟨ret_int HR.out.symm, rfl⟩
        · have HR := Lib.hid (show errT a b = 0 by rw [errT, if_pos ⟨h1, h2⟩, if_pos (by omega)])
          go_enter Tryd.func30, Tryd.ntmps30
          go_wp2_with fail
          refine (ref_right_any _ _ ha).mono ?_; rintro e w' ⟨rfl, rfl⟩
          go_wp2_with fail
          refine (ref_right_any _ _ hb).mono ?_; rintro e w' ⟨rfl, rfl⟩
          go_wp2_with fail
          go_ret
          exact ⟨ret_int HR.out.symm, rfl⟩
theorem sized_any (n : Nat) (w : World) (hl : (dec n).length ≤ maxLen) :
    Calls Tryd.prog 36 #[.string (B (dec n))] w fun e w' => e = .returned (.tuple #[.string (B (resS n)), .int .i64 (resE n)]) ∧ w' = w := by
  unfold maxLen at hl
  by_cases h : (dec n).length ≤ 4096
  · have HR := Lib.hid (show resS n = dec n ∧ resE n = 0 from ⟨if_pos h, if_pos h⟩)
    go_enter Tryd.func36, Tryd.ntmps36
    go_wp2_with fail
    go_ret2
    exact ⟨by rw [HR.out.1, HR.out.2]; rfl, rfl⟩
  · have HR := Lib.hid (show resS n = [] ∧ resE n = 4 from ⟨if_neg h, if_neg h⟩)
    go_enter Tryd.func36, Tryd.ntmps36
    go_wp2_with fail
    go_ret2
    exact ⟨by rw [HR.out.1, HR.out.2]; rfl, rfl⟩
theorem rdigit_any (l : List UInt8) (i : Nat) (w : World) (h : l.all isDig = true) (hl : l.length ≤ 1000000000) (hi : i ≤ 1000000000) :
    Calls Tryd.prog 51 #[.string (B l), .int .i64 i] w fun e w' => e = .returned (.int .i64 (dg (val l) i : Nat)) ∧ w' = w := by
  by_cases hlt : i < l.length
  · have h1 := dig_of_all h (k := l.length - 1 - i) (by omega)
    have HR := Lib.hid (dg_at h hlt)
    have hd1 : 48 ≤ ((at8 l (l.length - 1 - i)).toNat : Int) := by omega
    have hd2 : ((at8 l (l.length - 1 - i)).toNat : Int) ≤ 57 := by omega
    go_enter Tryd.func51, Tryd.ntmps51
    go_wp2_with fail
    go_ret
    exact ⟨ret_int (by rw [← HR.out]; unfold dv; omega), rfl⟩
  · have HR := Lib.hid (show dg (val l) i = 0 from dg_zero (Nat.lt_of_lt_of_le (val_lt l h) (Nat.pow_le_pow_right (by omega) (by omega))))
    go_enter Tryd.func51, Tryd.ntmps51
    go_wp2_with fail
    go_ret
    exact ⟨ret_int (by rw [HR.out]; rfl), rfl⟩
theorem letter_law (n : Nat) (h : n < 10) : (([48, 49, 50, 51, 52, 53, 54, 55, 56, 57] : List UInt8).take (n + 1)).drop n = [dch n] := by
  match n, h with
  | 0, _ => rfl
  | 1, _ => rfl
  | 2, _ => rfl
  | 3, _ => rfl
  | 4, _ => rfl
  | 5, _ => rfl
  | 6, _ => rfl
  | 7, _ => rfl
  | 8, _ => rfl
  | 9, _ => rfl
theorem letter_any (n : Nat) (w : World) (h : n < 10) :
    Calls Tryd.prog 33 #[.int .i64 n] w fun e w' => e = .returned (.string (B [dch n])) ∧ w' = w := by
  have HR := Lib.hid (letter_law n h)
  go_enter Tryd.func33, Tryd.ntmps33
  go_wp2_with fail
  go_ret
  exact ⟨ret_str (by rw [← HR.out]; rfl), rfl⟩
theorem rtrim_step (t : List UInt8) (h : 1 < t.length) (h0 : at8 t 0 = 48) : val (t.drop 1) = val t := by
  cases t with
  | nil => simp at h
  | cons c s => have : c = 48 := by simpa [at8] using h0
                subst this; simp [val_drop_zero]
theorem rtrim_any (l : List UInt8) (w : World) (h : l.all isDig = true) (h0 : 0 < l.length) (hl : l.length ≤ 1000000000) :
    Calls Tryd.prog 31 #[.string (B l)] w fun e w' => e = .returned (.string (B (dec (val l)))) ∧ w' = w := by
  go_enter Tryd.func31, Tryd.ntmps31
  go_wp2_with fail
  go_loop [0] (fun v => ∃ t : List UInt8, v = .string (B t) ∧ 0 < t.length ∧ t.length ≤ l.length ∧ t.all isDig = true ∧ val t = val l) (fun v => match v with | .string s => s.size | _ => 0)
  case atStart => exact ⟨l, rfl, h0, Nat.le_refl _, h, rfl⟩
  case round =>
    obtain ⟨t, rfl, ht0, htl, hta, htv⟩ := hrel
    have HV := Lib.hid htv
    have HA := Lib.hid hta
    clear htv hta h
    by_cases h1 : 1 < t.length
    · by_cases h2 : at8 t 0 = 48
      · have h2' : (((at8 t 0).toNat : Int) == 48) = true := by rw [h2]; rfl
        have HS := Lib.hid (rtrim_step t h1 h2)
        clear h2
        go_wp2_with fail
        go_round
        case rel =>
          refine ⟨t.drop 1, ?_, by simp; omega, by simp; omega, ?_, by rw [HS.out, HV.out]⟩
          · simp
          · intro x hx
            exact List.all_eq_true.1 HA.out x (List.mem_of_mem_drop hx)
        case measure => omega
      · have h2' : (((at8 t 0).toNat : Int) == 48) = false := by
          rw [beq_eq_false_iff_ne]; intro e; apply h2; apply UInt8.toNat_inj.1; simp; omega
        have hr : right t = true := by
          unfold right
          have hne : t ≠ [] := List.length_pos_iff.1 ht0
          rw [at8_zero_head t hne, HA.out]
          have : t.isEmpty = false := by simpa using hne
          simp [this, h2]
        have HS := Lib.hid (dec_val hr)
        clear h2
        go_wp2_with fail
        go_ret
        exact ⟨ret_str (by rw [← HV.out, HS.out]), rfl⟩
    · have HS := Lib.hid (show dec (val t) = t by
        have hlen : t.length = 1 := by omega
        have hd := HA.out
        match t, hlen with
        | [c], _ =>
          simp at hd
          rw [val_one, dec_lt (dv_lt hd), dch_dv hd])
      go_wp2_with fail
      go_ret
      exact ⟨ret_str (by rw [← HV.out, HS.out]), rfl⟩
end Go.Proofs.YtbjjbfefbkamoaaDoor

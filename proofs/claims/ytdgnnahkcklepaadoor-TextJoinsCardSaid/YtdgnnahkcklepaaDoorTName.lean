/- text.digit, letter, Name and the reference's. -/
import Derived.Test.YtdgnnahkcklepaaDoorBase
import Derived.Test.YtdgnnahkcklepaaDoorTxt2
namespace Go.Proofs.YtdgnnahkcklepaaDoor
open Go.RowKit Num Txt
set_option linter.unusedVariables false
attribute [local go_sem] B_size B_get B_toList B_mk B_extract B_append

theorem digit_any (c : UInt8) (w : World) : Calls Tryd.prog 24 #[.int .u8 c.toNat] w fun e w' => e = .returned (.bool (isDig c)) ∧ w' = w := by
  have HR := Lib.hid (show isDig c = (decide (48 ≤ c.toNat) && decide (c.toNat ≤ 57)) from rfl)
  have hc := c.toNat_lt
  generalize c.toNat = x at *
  by_cases h1 : (48 : Int) ≤ (x : Int)
  · by_cases h2 : (x : Int) ≤ 57
    · go_enter Tryd.func24, Tryd.ntmps24
      go_wp2_with fail
      go_ret
      exact ⟨ret_bool (by rw [HR.out, decide_eq_true (by omega : 48 ≤ x), decide_eq_true (by omega : x ≤ 57)]; rfl), rfl⟩
    · have h2' : (57 : Int) < (x : Int) := by omega
      go_enter Tryd.func24, Tryd.ntmps24
      go_wp2_with fail
      go_ret
      exact ⟨ret_bool (by rw [HR.out, decide_eq_true (by omega : 48 ≤ x), decide_eq_false (by omega : ¬ x ≤ 57)]; rfl), rfl⟩
  · have h1' : (x : Int) < 48 := by omega
    go_enter Tryd.func24, Tryd.ntmps24
    go_wp2_with fail
    go_ret
    exact ⟨ret_bool (by rw [HR.out, decide_eq_false (by omega : ¬ 48 ≤ x)]; rfl), rfl⟩
theorem rdigit_any (c : UInt8) (w : World) : Calls Tryd.prog 26 #[.int .u8 c.toNat] w fun e w' => e = .returned (.bool (isDig c)) ∧ w' = w := by
  have HR := Lib.hid (show isDig c = (decide (48 ≤ c.toNat) && decide (c.toNat ≤ 57)) from rfl)
  have hc := c.toNat_lt
  generalize c.toNat = x at *
  by_cases h1 : (48 : Int) ≤ (x : Int)
  · by_cases h2 : (x : Int) ≤ 57
    · go_enter Tryd.func26, Tryd.ntmps26
      go_wp2_with fail
      go_ret
      exact ⟨ret_bool (by rw [HR.out, decide_eq_true (by omega : 48 ≤ x), decide_eq_true (by omega : x ≤ 57)]; rfl), rfl⟩
    · have h2' : (57 : Int) < (x : Int) := by omega
      go_enter Tryd.func26, Tryd.ntmps26
      go_wp2_with fail
      go_ret
      exact ⟨ret_bool (by rw [HR.out, decide_eq_true (by omega : 48 ≤ x), decide_eq_false (by omega : ¬ x ≤ 57)]; rfl), rfl⟩
  · have h1' : (x : Int) < 48 := by omega
    go_enter Tryd.func26, Tryd.ntmps26
    go_wp2_with fail
    go_ret
    exact ⟨ret_bool (by rw [HR.out, decide_eq_false (by omega : ¬ 48 ≤ x)]; rfl), rfl⟩
def letN (x : Nat) : Bool := (decide (97 ≤ x) && decide (x ≤ 122)) || (decide (65 ≤ x) && decide (x ≤ 90)) || decide (x = 95)
theorem letN_t {x : Nat} (h : 97 ≤ x ∧ x ≤ 122 ∨ 65 ≤ x ∧ x ≤ 90 ∨ x = 95) : letN x = true := by unfold letN; simp; omega
theorem letN_f {x : Nat} (h : ¬ (97 ≤ x ∧ x ≤ 122 ∨ 65 ≤ x ∧ x ≤ 90 ∨ x = 95)) : letN x = false := by
  have : ¬ letN x = true := by unfold letN; simp; omega
  simpa using this
theorem letter_any (c : UInt8) (w : World) : Calls Tryd.prog 25 #[.int .u8 c.toNat] w fun e w' => e = .returned (.bool (isLet c)) ∧ w' = w := by
  have HR := Lib.hid (show isLet c = letN c.toNat from rfl)
  have hc := c.toNat_lt
  generalize c.toNat = x at *
  have fin : ∀ b, letN x = b → isLet c = b := fun b h => by rw [HR.out, h]
  have FIN := Lib.hid fin
  clear fin HR
  by_cases h1 : (97 : Int) ≤ (x : Int)
  · by_cases h2 : (x : Int) ≤ 122
    · go_enter Tryd.func25, Tryd.ntmps25
      go_wp2_with fail
      go_ret
      exact ⟨ret_bool (FIN.out _ (letN_t (by omega))).symm, rfl⟩
    · have h2' : (122 : Int) < (x : Int) := by omega
      have h4 : ((x : Int) == 95) = false := by simp; omega
      have h3 : (65 : Int) ≤ (x : Int) := by omega
      have h5 : (90 : Int) < (x : Int) := by omega
      go_enter Tryd.func25, Tryd.ntmps25
      go_wp2_with fail
      go_ret
      exact ⟨ret_bool (by rw [FIN.out _ (letN_f (by omega))]; simp; omega), rfl⟩
  · have h1' : (x : Int) < 97 := by omega
    by_cases h3 : (65 : Int) ≤ (x : Int)
    · by_cases h5 : (x : Int) ≤ 90
      · go_enter Tryd.func25, Tryd.ntmps25
        go_wp2_with fail
        go_ret
        exact ⟨ret_bool (FIN.out _ (letN_t (by omega))).symm, rfl⟩
      · have h5' : (90 : Int) < (x : Int) := by omega
        by_cases h6 : x = 95
        · have h4 : ((x : Int) == 95) = true := by simp; omega
          go_enter Tryd.func25, Tryd.ntmps25
          go_wp2_with fail
          go_ret
          exact ⟨ret_bool (FIN.out _ (letN_t (by omega))).symm, rfl⟩
        · have h4 : ((x : Int) == 95) = false := by simp; omega
          go_enter Tryd.func25, Tryd.ntmps25
          go_wp2_with fail
          go_ret
          exact ⟨ret_bool (FIN.out _ (letN_f (by omega))).symm, rfl⟩
    · have h3' : (x : Int) < 65 := by omega
      have h4 : ((x : Int) == 95) = false := by simp; omega
      go_enter Tryd.func25, Tryd.ntmps25
      go_wp2_with fail
      go_ret
      exact ⟨ret_bool (FIN.out _ (letN_f (by omega))).symm, rfl⟩
theorem rletter_any (c : UInt8) (w : World) : Calls Tryd.prog 27 #[.int .u8 c.toNat] w fun e w' => e = .returned (.bool (isLet c)) ∧ w' = w := by
  have HR := Lib.hid (show isLet c = letN c.toNat from rfl)
  have hc := c.toNat_lt
  generalize c.toNat = x at *
  have fin : ∀ b, letN x = b → isLet c = b := fun b h => by rw [HR.out, h]
  have FIN := Lib.hid fin
  clear fin HR
  by_cases h1 : (97 : Int) ≤ (x : Int)
  · by_cases h2 : (x : Int) ≤ 122
    · go_enter Tryd.func27, Tryd.ntmps27
      go_wp2_with fail
      go_ret
      exact ⟨ret_bool (FIN.out _ (letN_t (by omega))).symm, rfl⟩
    · have h2' : (122 : Int) < (x : Int) := by omega
      have h4 : ((x : Int) == 95) = false := by simp; omega
      have h3 : (65 : Int) ≤ (x : Int) := by omega
      have h5 : (90 : Int) < (x : Int) := by omega
      go_enter Tryd.func27, Tryd.ntmps27
      go_wp2_with fail
      go_ret
      exact ⟨ret_bool (by rw [FIN.out _ (letN_f (by omega))]; simp; omega), rfl⟩
  · have h1' : (x : Int) < 97 := by omega
    by_cases h3 : (65 : Int) ≤ (x : Int)
    · by_cases h5 : (x : Int) ≤ 90
      · go_enter Tryd.func27, Tryd.ntmps27
        go_wp2_with fail
        go_ret
        exact ⟨ret_bool (FIN.out _ (letN_t (by omega))).symm, rfl⟩
      · have h5' : (90 : Int) < (x : Int) := by omega
        by_cases h6 : x = 95
        · have h4 : ((x : Int) == 95) = true := by simp; omega
          go_enter Tryd.func27, Tryd.ntmps27
          go_wp2_with fail
          go_ret
          exact ⟨ret_bool (FIN.out _ (letN_t (by omega))).symm, rfl⟩
        · have h4 : ((x : Int) == 95) = false := by simp; omega
          go_enter Tryd.func27, Tryd.ntmps27
          go_wp2_with fail
          go_ret
          exact ⟨ret_bool (FIN.out _ (letN_f (by omega))).symm, rfl⟩
    · have h3' : (x : Int) < 65 := by omega
      have h4 : ((x : Int) == 95) = false := by simp; omega
      go_enter Tryd.func27, Tryd.ntmps27
      go_wp2_with fail
      go_ret
      exact ⟨ret_bool (FIN.out _ (letN_f (by omega))).symm, rfl⟩

theorem nameOK_parts (s : Str) : nameOK s = true ↔ (1 ≤ s.length ∧ s.length ≤ 16 ∧ isDig (at8 s 0) = false ∧ s.all (fun c => isLet c || isDig c) = true) := by
  unfold nameOK at8; simp [and_assoc]
def nch (c : UInt8) : Bool := isLet c || isDig c
theorem nameOK_no {s : Str} (h : ¬ (1 ≤ s.length ∧ s.length ≤ 16 ∧ isDig (at8 s 0) = false ∧ s.all nch = true)) : nameOK s = false := by
  have := mt (nameOK_parts s).1 h
  simpa using this
theorem nameOK_yes {s : Str} (h : 1 ≤ s.length ∧ s.length ≤ 16 ∧ isDig (at8 s 0) = false ∧ s.all nch = true) : nameOK s = true := (nameOK_parts s).2 h

theorem name_any (l : List UInt8) (w : World) (hs : l.length ≤ maxLen) :
    Calls Tryd.prog 8 #[.string (B l)] w fun e w' => e = .returned (.bool (nameOK l)) ∧ w' = w := by
  unfold maxLen at hs
  have NO := Lib.hid (@nameOK_no l)
  have YES := Lib.hid (@nameOK_yes l)
  by_cases h0 : l = []
  · subst h0
    go_enter Tryd.func8, Tryd.ntmps8
    simp only [B_mk]
    go_wp2_with fail
    go_ret
    exact ⟨rfl, rfl⟩
  · have hlen : 0 < l.length := List.length_pos_iff.2 h0
    have he : (l == []) = false := by simpa using h0
    by_cases h16 : (16 : Int) < (l.length : Int)
    · go_enter Tryd.func8, Tryd.ntmps8
      simp only [B_mk]
      go_wp2_with fail
      go_ret
      exact ⟨ret_bool (NO.out (by omega)).symm, rfl⟩
    · have h16' : (l.length : Int) ≤ 16 := by omega
      clear h0
      go_enter Tryd.func8, Tryd.ntmps8
      simp only [B_mk]
      go_wp2_with fail
      refine (digit_any (at8 l 0) w).mono ?_
      rintro e w' ⟨rfl, rfl⟩
      by_cases hd0 : isDig (at8 l 0) = true
      · go_wp2_with fail
        go_ret
        exact ⟨ret_bool (NO.out (by rw [hd0]; simp)).symm, rfl⟩
      · have hd1 : isDig (at8 l 0) = false := by simpa using hd0
        clear hd0
        go_wp2_with fail
        go_loopw [3, 18] (fun _ i wr => ∃ k : Nat, k ≤ l.length ∧ i = .int .i64 k ∧ (l.take k).all nch = true ∧ wr = w') (fun _ i _ => l.length - (intOf i).toNat)
        case atStart => exact ⟨0, Nat.zero_le _, rfl, by simp, by trivial⟩
        case round =>
          obtain ⟨k, hk, rfl, hall, rfl⟩ := hrel
          have HA := Lib.hid hall
          clear hall
          by_cases hlt : k < l.length
          · have HT := Lib.hid (fun h => all_take_succ (p := nch) hlt HA.out h)
            have HF := Lib.hid (fun h => not_all_of (p := nch) hlt h)
            have HN := Lib.hid (show nch (at8 l k) = (isLet (at8 l k) || isDig (at8 l k)) from rfl)
            go_wp2_with fail
            refine (letter_any (at8 l k) _).mono ?_
            rintro e w2 ⟨rfl, rfl⟩
            by_cases hl : isLet (at8 l k) = true
            · rw [hl]
              go_wp2_with fail
              go_roundw
              case rel => exact ⟨k + 1, by omega, by go_num, HT.out (by rw [HN.out, hl]; rfl), by trivial⟩
              case measure => simp [intOf]; omega
            · have hl' : isLet (at8 l k) = false := by simpa using hl
              rw [hl']
              go_wp2_with fail
              refine (digit_any (at8 l k) _).mono ?_
              rintro e w3 ⟨rfl, rfl⟩
              by_cases hd : isDig (at8 l k) = true
              · rw [hd]
                go_wp2_with fail
                go_roundw
                case rel => exact ⟨k + 1, by omega, by go_num, HT.out (by rw [HN.out, hd]; simp), by trivial⟩
                case measure => simp [intOf]; omega
              · have hd' : isDig (at8 l k) = false := by simpa using hd
                rw [hd']
                go_wp2_with fail
                go_ret
                exact ⟨ret_bool (NO.out (by rw [HF.out (by rw [HN.out, hl', hd']; rfl)]; simp)).symm, rfl⟩
          · go_wp2_with fail
            go_ret
            have := HA.out
            rw [List.take_of_length_le (by omega)] at this
            exact ⟨ret_bool (YES.out ⟨by omega, by omega, hd1, this⟩).symm, rfl⟩
theorem rname_any (l : List UInt8) (w : World) (hs : l.length ≤ maxLen) :
    Calls Tryd.prog 9 #[.string (B l)] w fun e w' => e = .returned (.bool (nameOK l)) ∧ w' = w := by
  unfold maxLen at hs
  have NO := Lib.hid (@nameOK_no l)
  have YES := Lib.hid (@nameOK_yes l)
  by_cases h0 : l = []
  · subst h0
    go_enter Tryd.func9, Tryd.ntmps9
    go_wp2_with fail
    go_ret
    exact ⟨rfl, rfl⟩
  · have hlen : 0 < l.length := List.length_pos_iff.2 h0
    have he : (l == []) = false := by simpa using h0
    by_cases h16 : (16 : Int) < (l.length : Int)
    · go_enter Tryd.func9, Tryd.ntmps9
      go_wp2_with fail
      go_ret
      exact ⟨ret_bool (NO.out (by omega)).symm, rfl⟩
    · have h16' : (l.length : Int) ≤ 16 := by omega
      clear h0
      go_enter Tryd.func9, Tryd.ntmps9
      go_wp2_with fail
      refine (rdigit_any (at8 l 0) w).mono ?_
      rintro e w' ⟨rfl, rfl⟩
      by_cases hd0 : isDig (at8 l 0) = true
      · go_wp2_with fail
        go_ret
        exact ⟨ret_bool (NO.out (by rw [hd0]; simp)).symm, rfl⟩
      · have hd1 : isDig (at8 l 0) = false := by simpa using hd0
        clear hd0
        go_wp2_with fail
        go_loopw [3] (fun i wr => ∃ k : Nat, k ≤ l.length ∧ i = .int .i64 k ∧ (l.take k).all nch = true ∧ wr = w') (fun i _ => l.length - (intOf i).toNat)
        case atStart => exact ⟨0, Nat.zero_le _, rfl, by simp, by trivial⟩
        case round =>
          obtain ⟨k, hk, rfl, hall, rfl⟩ := hrel
          have HA := Lib.hid hall
          clear hall
          by_cases hlt : k < l.length
          · have HT := Lib.hid (fun h => all_take_succ (p := nch) hlt HA.out h)
            have HF := Lib.hid (fun h => not_all_of (p := nch) hlt h)
            have HN := Lib.hid (show nch (at8 l k) = (isLet (at8 l k) || isDig (at8 l k)) from rfl)
            go_wp2_with fail
            refine (rletter_any (at8 l k) _).mono ?_
            rintro e w2 ⟨rfl, rfl⟩
            by_cases hl : isLet (at8 l k) = true
            · rw [hl]
              go_wp2_with fail
              go_roundw
              case rel => exact ⟨k + 1, by omega, by go_num, HT.out (by rw [HN.out, hl]; rfl), by trivial⟩
              case measure => simp [intOf]; omega
            · have hl' : isLet (at8 l k) = false := by simpa using hl
              rw [hl']
              go_wp2_with fail
              refine (rdigit_any (at8 l k) _).mono ?_
              rintro e w3 ⟨rfl, rfl⟩
              by_cases hd : isDig (at8 l k) = true
              · rw [hd]
                go_wp2_with fail
                go_roundw
                case rel => exact ⟨k + 1, by omega, by go_num, HT.out (by rw [HN.out, hd]; simp), by trivial⟩
                case measure => simp [intOf]; omega
              · have hd' : isDig (at8 l k) = false := by simpa using hd
                rw [hd']
                go_wp2_with fail
                go_ret
                exact ⟨ret_bool (NO.out (by rw [HF.out (by rw [HN.out, hl', hd']; rfl)]; simp)).symm, rfl⟩
          · go_wp2_with fail
            go_ret
            have := HA.out
            rw [List.take_of_length_le (by omega)] at this
            exact ⟨ret_bool (YES.out ⟨by omega, by omega, hd1, this⟩).symm, rfl⟩
/-- TextNames without awake -/
theorem names_same (l : List UInt8) : (nameOK l == nameOK l) = true := by simp
end Go.Proofs.YtdgnnahkcklepaaDoor

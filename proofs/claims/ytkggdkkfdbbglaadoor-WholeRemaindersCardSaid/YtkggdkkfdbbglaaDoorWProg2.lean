/- whole: Sign, text, compare, Compare. -/
import Derived.Test.YtkggdkkfdbbglaaDoorWProg
import Derived.Test.YtkggdkkfdbbglaaDoorOwnR
import Derived.Test.YtkggdkkfdbbglaaDoorStrs
namespace Go.Proofs.YtkggdkkfdbbglaaDoor
open Go.RowKit Num
set_option linter.unusedVariables false
attribute [local go_sem] B_size B_get B_toList B_mk B_extract B_append
attribute [local go_sem high] run_max2

theorem psign_any (a : List UInt8) (w : World) (ha : a.length ≤ maxLen) :
    Calls Tryd.prog 28 #[.string (B a)] w fun e w' => e = .returned (.int .i64 (signIS a)) ∧ w' = w := by
  cases h1 : rightI a
  · have HR := Lib.hid (show signIS a = 0 by rw [signIS, h1]; rfl)
    go_enter Tryd.func28, Tryd.ntmps28
    simp only [B_mk]
    go_wp2_with fail
    refine (pparts_any a w ha).mono ?_; rintro e w' ⟨rfl, h⟩; obtain rfl := h.symm
    go_wp2_with fail
    go_ret
    exact ⟨ret_int HR.out.symm, rfl⟩
  · by_cases h0 : mag a = [48]
    · have HR := Lib.hid (show signIS a = 0 by rw [signIS, if_pos h1, valI_sg, h0]; show ordI (sg _ 0) 0 = 0; rw [sg_zero]; rfl)
      have h0' : (mag a == [48]) = true := by simpa using h0
      clear h0
      go_enter Tryd.func28, Tryd.ntmps28
      simp only [B_mk]
      go_wp2_with fail
      refine (pparts_any a w ha).mono ?_; rintro e w' ⟨rfl, h⟩; obtain rfl := h.symm
      go_wp2_with fail
      go_ret
      exact ⟨ret_int HR.out.symm, rfl⟩
    · have h0' : (mag a == [48]) = false := by simpa using h0
      have hv : val (mag a) ≠ 0 := by
        intro e
        apply h0
        have h3 := dec_mag h1
        rw [e, dec_zero] at h3
        exact h3
      cases hn : neg? a
      · have HR := Lib.hid (show signIS a = 1 by rw [signIS, if_pos h1, valI_sg, hn, sg_false, ordI, if_neg (by omega), if_pos (by omega)])
        clear h0
        go_enter Tryd.func28, Tryd.ntmps28
        simp only [B_mk]
        go_wp2_with fail
        refine (pparts_any a w ha).mono ?_; rintro e w' ⟨rfl, h⟩; obtain rfl := h.symm
        go_wp2_with fail
        go_ret
        exact ⟨ret_int HR.out.symm, rfl⟩
      · have HR := Lib.hid (show signIS a = -1 by rw [signIS, if_pos h1, valI_sg, hn, sg_true, ordI, if_pos (by omega)])
        clear h0
        go_enter Tryd.func28, Tryd.ntmps28
        simp only [B_mk]
        go_wp2_with fail
        refine (pparts_any a w ha).mono ?_; rintro e w' ⟨rfl, h⟩; obtain rfl := h.symm
        go_wp2_with fail
        go_ret
        exact ⟨ret_int HR.out.symm, rfl⟩
theorem ptext_any (m : Bool) (n : Nat) (w : World) (hl : (dec n).length ≤ 1000000) :
    Calls Tryd.prog 39 #[.agg #[.bool m, .string (B (dec n))]] w fun e w' => e = .returned (.string (B (decI (sg m n)))) ∧ Below w.heap.size w w' := by
  cases m
  · have HR := Lib.hid (decI_sg_false n)
    go_enter Tryd.func39, Tryd.ntmps39
    simp only [B_mk]
    go_wp2_with fail
    go_ret
    exact ⟨ret_str HR.out.symm, (Below.refl _ _).alloc (Nat.le_refl _) _⟩
  · by_cases h0 : n = 0
    · have HR := Lib.hid (show decI (sg true n) = dec n by rw [h0, sg_zero, decI_zero, dec_zero])
      have h1 : (dec n != [48]) = false := by rw [h0, dec_zero]; rfl
      have h2 : (!(dec n == [48])) = false := by rw [h0, dec_zero]; rfl
      clear h0
      go_enter Tryd.func39, Tryd.ntmps39
      simp only [B_mk]
      go_wp2_with fail
      go_ret
      exact ⟨ret_str HR.out.symm, (Below.refl _ _).alloc (Nat.le_refl _) _⟩
    · have HR := Lib.hid (decI_sg_pos h0)
      have hne : dec n ≠ [48] := by intro e; rw [← dec_zero] at e; exact h0 (dec_inj e)
      have h1 : (dec n != [48]) = true := by simpa using hne
      have h2 : (!(dec n == [48])) = true := by simpa using hne
      have h3 : (dec n == [48]) = false := by simpa using hne
      clear h0 hne
      go_enter Tryd.func39, Tryd.ntmps39
      simp only [B_mk]
      go_wp2_with fail
      go_ret
      exact ⟨ret_str (by rw [HR.out]), (Below.refl _ _).alloc (Nat.le_refl _) _⟩
theorem compareBytes_dec : ∀ (a b : Str), a.length = b.length → a.all isDig = true → b.all isDig = true → Lib.compareBytes a b = ordI (val a) (val b) := by
  intro a
  induction a with
  | nil =>
    intro b h _ _
    have : b = [] := List.eq_nil_of_length_eq_zero h.symm
    subst this; rfl
  | cons c s ih =>
    intro b h h1 h2
    cases b with
    | nil => simp at h
    | cons d t =>
      simp only [List.all_cons, Bool.and_eq_true] at h1 h2
      have hl : s.length = t.length := by simpa using h
      have hs := val_lt s h1.2
      have ht := val_lt t h2.2
      rw [hl] at hs
      have hdc := h1.1
      have hdd := h2.1
      unfold isDig at hdc hdd
      simp at hdc hdd
      have e1 := val_cons c s
      have e2 := val_cons d t
      rw [hl] at e1
      rw [Lib.compareBytes]
      by_cases hlt : c < d
      · rw [if_pos hlt]
        have hn : c.toNat < d.toNat := UInt8.lt_iff_toNat_lt.1 hlt
        have h3 : dv c + 1 ≤ dv d := by unfold dv; omega
        have h4 := Nat.mul_le_mul_right (10 ^ t.length) h3
        rw [Nat.add_mul] at h4
        exact (ordI_lt (by omega)).symm
      · rw [if_neg hlt]
        by_cases hgt : d < c
        · rw [if_pos hgt]
          have hn : d.toNat < c.toNat := UInt8.lt_iff_toNat_lt.1 hgt
          have h3 : dv d + 1 ≤ dv c := by unfold dv; omega
          have h4 := Nat.mul_le_mul_right (10 ^ t.length) h3
          rw [Nat.add_mul] at h4
          exact (ordI_gt (by omega)).symm
        · rw [if_neg hgt]
          have hcd : c = d := by
            apply UInt8.toNat_inj.1
            have h5 : ¬ c.toNat < d.toNat := fun h => hlt (UInt8.lt_iff_toNat_lt.2 h)
            have h6 : ¬ d.toNat < c.toNat := fun h => hgt (UInt8.lt_iff_toNat_lt.2 h)
            omega
          rw [ih t hl h1.2 h2.2, e1, e2, hcd]
          unfold ordI
          split <;> split <;> (try split) <;> (try split) <;> omega
theorem pcompare_any (x y : Nat) (w : World) (hx : (dec x).length ≤ 1000000) (hy : (dec y).length ≤ 1000000) :
    Calls Tryd.prog 53 #[.string (B (dec x)), .string (B (dec y))] w fun e w' => e = .returned (.int .i64 (ordI x y)) ∧ w' = w := by
  by_cases hl : (dec x).length = (dec y).length
  · have HR := Lib.hid (show Lib.compareBytes (dec x) (dec y) = ordI x y by rw [compareBytes_dec _ _ hl (dec_all x) (dec_all y), val_dec, val_dec])
    have h1 : (((dec x).length : Int) != ((dec y).length : Int)) = false := by simp; omega
    have h1' : (((dec x).length : Int) == ((dec y).length : Int)) = true := by simp; omega
    clear hl
    go_enter Tryd.func53, Tryd.ntmps53
    go_wp2_with fail
    refine (Tryd.strings_Compare (B (dec x)) (B (dec y)) w).mono ?_
    rintro e w' ⟨rfl, h⟩; obtain rfl := h.symm
    rw [show (B (dec x)).data.toList = dec x from by simp [B], show (B (dec y)).data.toList = dec y from by simp [B], HR.out]
    go_wp2_with fail
    go_ret
    exact ⟨rfl, rfl⟩
  · have h1 : (((dec x).length : Int) != ((dec y).length : Int)) = true := by simp; omega
    have h1' : (((dec x).length : Int) == ((dec y).length : Int)) = false := by rw [beq_eq_false_iff_ne]; omega
    by_cases hlt : (dec x).length < (dec y).length
    · have HR := Lib.hid (show ordI x y = -1 from ordI_lt (by
        rcases Nat.lt_or_ge x y with h | h
        · exact h
        · have := length_dec_mono h; omega))
      clear hl
      go_enter Tryd.func53, Tryd.ntmps53
      go_wp2_with fail
      go_ret
      exact ⟨ret_int HR.out.symm, rfl⟩
    · have HR := Lib.hid (show ordI x y = 1 from ordI_gt (by
        rcases Nat.lt_or_ge y x with h | h
        · exact h
        · have := length_dec_mono h; omega))
      clear hl
      go_enter Tryd.func53, Tryd.ntmps53
      go_wp2_with fail
      go_ret
      exact ⟨ret_int HR.out.symm, rfl⟩
theorem dec_magL {a : Str} (h : rightI a = true) : (dec (val (mag a))).length ≤ a.length := by rw [← dec_mag h]; exact mag_length a
set_option maxHeartbeats 1000000 in
theorem pcmp_any (a b : List UInt8) (w : World) (ha : a.length ≤ 1000000) (hb : b.length ≤ 1000000) :
    Calls Tryd.prog 30 #[.string (B a), .string (B b)] w fun e w' => e = .returned (.int .i64 (cmpIS a b)) ∧ w' = w := by
  have hma : a.length ≤ maxLen := by unfold maxLen; omega
  have hmb : b.length ≤ maxLen := by unfold maxLen; omega
  cases h1 : rightI a
  · have HR := Lib.hid (show cmpIS a b = 0 by rw [cmpIS, if_neg (by simp [h1])])
    go_enter Tryd.func30, Tryd.ntmps30
    go_wp2_with fail
    refine (pparts_any a w hma).mono ?_; rintro e w' ⟨rfl, h⟩; obtain rfl := h.symm
    go_wp2_with fail
    refine (pparts_any b w hmb).mono ?_; rintro e w' ⟨rfl, h⟩; obtain rfl := h.symm
    go_wp2_with fail
    go_ret
    exact ⟨ret_int HR.out.symm, rfl⟩
  · cases h2 : rightI b
    · have HR := Lib.hid (show cmpIS a b = 0 by rw [cmpIS, if_neg (by simp [h2])])
      go_enter Tryd.func30, Tryd.ntmps30
      go_wp2_with fail
      refine (pparts_any a w hma).mono ?_; rintro e w' ⟨rfl, h⟩; obtain rfl := h.symm
      go_wp2_with fail
      refine (pparts_any b w hmb).mono ?_; rintro e w' ⟨rfl, h⟩; obtain rfl := h.symm
      go_wp2_with fail
      go_ret
      exact ⟨ret_int HR.out.symm, rfl⟩
    · have hda := Lib.hid (dec_mag h1)
      have hdb := Lib.hid (dec_mag h2)
      have hla := dec_magL h1
      have hlb := dec_magL h2
      have H1 := Lib.hid h1
      have H2 := Lib.hid h2
      have HC := Lib.hid (fun x y w hx hy => pcompare_any x y w hx hy)
      cases hn : neg? a <;> cases hm : neg? b
      · have HR := Lib.hid (cmp_pp h1 h2 hn hm)
        go_enter Tryd.func30, Tryd.ntmps30
        go_wp2_with fail
        refine (pparts_any a w hma).mono ?_; rintro e w' ⟨rfl, h⟩; obtain rfl := h.symm
        go_wp2_with fail
        refine (pparts_any b w hmb).mono ?_; rintro e w' ⟨rfl, h⟩; obtain rfl := h.symm
        go_wp2_with fail
        rw [hda.out, hdb.out]
        refine (HC.out _ _ w (by omega) (by omega)).mono ?_; rintro e w' ⟨rfl, h⟩; obtain rfl := h.symm
        go_wp2_with fail
        go_ret
        exact ⟨ret_int HR.out.symm, rfl⟩
      · have HR := Lib.hid (cmp_pn h1 h2 hn hm)
        go_enter Tryd.func30, Tryd.ntmps30
        go_wp2_with fail
        refine (pparts_any a w hma).mono ?_; rintro e w' ⟨rfl, h⟩; obtain rfl := h.symm
        go_wp2_with fail
        refine (pparts_any b w hmb).mono ?_; rintro e w' ⟨rfl, h⟩; obtain rfl := h.symm
        go_wp2_with fail
        go_ret
        exact ⟨ret_int HR.out.symm, rfl⟩
      · have HR := Lib.hid (cmp_np h1 h2 hn hm)
        go_enter Tryd.func30, Tryd.ntmps30
        go_wp2_with fail
        refine (pparts_any a w hma).mono ?_; rintro e w' ⟨rfl, h⟩; obtain rfl := h.symm
        go_wp2_with fail
        refine (pparts_any b w hmb).mono ?_; rintro e w' ⟨rfl, h⟩; obtain rfl := h.symm
        go_wp2_with fail
        go_ret
        exact ⟨ret_int HR.out.symm, rfl⟩
      · have HR := Lib.hid (cmp_nn h1 h2 hn hm)
        go_enter Tryd.func30, Tryd.ntmps30
        go_wp2_with fail
        refine (pparts_any a w hma).mono ?_; rintro e w' ⟨rfl, h⟩; obtain rfl := h.symm
        go_wp2_with fail
        refine (pparts_any b w hmb).mono ?_; rintro e w' ⟨rfl, h⟩; obtain rfl := h.symm
        go_wp2_with fail
        rw [hda.out, hdb.out]
        refine (HC.out _ _ w (by omega) (by omega)).mono ?_; rintro e w' ⟨rfl, h⟩; obtain rfl := h.symm
        go_wp2_with fail
        go_ret
        exact ⟨ret_int HR.out.symm, rfl⟩
end Go.Proofs.YtkggdkkfdbbglaaDoor

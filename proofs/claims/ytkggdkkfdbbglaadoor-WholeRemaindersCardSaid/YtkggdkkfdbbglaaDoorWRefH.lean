/- The reference of whole: Compare, Sign, Div. -/
import Derived.Test.YtkggdkkfdbbglaaDoorWRefG
namespace Go.Proofs.YtkggdkkfdbbglaaDoor
open Go.RowKit Num
set_option linter.unusedVariables false
attribute [local go_sem] B_size B_get B_toList B_mk B_extract B_append
attribute [local go_sem high] run_max2

theorem ordI_nn (x y : Nat) : ordI (-(x : Int)) (-(y : Int)) = ordI y x := by unfold ordI; split <;> split <;> (try split) <;> omega
theorem val_pos_neg {a : Str} (h : rightI a = true) (hn : neg? a = true) : 0 < val (mag a) := by
  rcases Nat.eq_zero_or_pos (val (mag a)) with h0 | h0
  · have h1 := dec_mag h
    rw [h0, dec_zero] at h1
    unfold rightI at h
    rw [hn, h1] at h
    simp at h
  · exact h0
theorem cmp_pp {a b : Str} (h1 : rightI a = true) (h2 : rightI b = true) (hn : neg? a = false) (hm : neg? b = false) : cmpIS a b = ordI (val (mag a)) (val (mag b)) := by
  rw [cmpIS, if_pos ⟨h1, h2⟩, valI_sg, valI_sg, hn, hm]; rfl
theorem cmp_nn {a b : Str} (h1 : rightI a = true) (h2 : rightI b = true) (hn : neg? a = true) (hm : neg? b = true) : cmpIS a b = ordI (val (mag b)) (val (mag a)) := by
  rw [cmpIS, if_pos ⟨h1, h2⟩, valI_sg, valI_sg, hn, hm, sg_true, sg_true, ordI_nn]
theorem cmp_np {a b : Str} (h1 : rightI a = true) (h2 : rightI b = true) (hn : neg? a = true) (hm : neg? b = false) : cmpIS a b = -1 := by
  have := val_pos_neg h1 hn
  rw [cmpIS, if_pos ⟨h1, h2⟩, valI_sg, valI_sg, hn, hm, sg_true, sg_false, ordI, if_pos (by omega)]
theorem cmp_pn {a b : Str} (h1 : rightI a = true) (h2 : rightI b = true) (hn : neg? a = false) (hm : neg? b = true) : cmpIS a b = 1 := by
  have := val_pos_neg h2 hm
  rw [cmpIS, if_pos ⟨h1, h2⟩, valI_sg, valI_sg, hn, hm, sg_true, sg_false, ordI, if_neg (by omega), if_pos (by omega)]

set_option maxHeartbeats 1000000 in
theorem wrcompare_any (a b : List UInt8) (w : World) (ha : a.length ≤ 100000) (hb : b.length ≤ 100000) :
    Calls Tryd.prog 31 #[.string (B a), .string (B b)] w fun e w' => e = .returned (.int .i64 (cmpIS a b)) ∧ Below w.heap.size w w' := by
  have hma : a.length ≤ maxLen := by unfold maxLen; omega
  have hmb : b.length ≤ maxLen := by unfold maxLen; omega
  cases h1 : rightI a
  · have HR := Lib.hid (show cmpIS a b = 0 by rw [cmpIS, if_neg (by simp [h1])])
    go_enter Tryd.func31, Tryd.ntmps31
    go_wp2_with fail
    refine (wright_ref_any _ _ hma).mono ?_; rintro e w' ⟨rfl, h⟩; obtain rfl := h.symm
    go_wp2_with fail
    go_ret
    exact ⟨ret_int HR.out.symm, Below.refl _ _⟩
  · cases h2 : rightI b
    · have HR := Lib.hid (show cmpIS a b = 0 by rw [cmpIS, if_neg (by simp [h2])])
      go_enter Tryd.func31, Tryd.ntmps31
      go_wp2_with fail
      refine (wright_ref_any _ _ hma).mono ?_; rintro e w' ⟨rfl, h⟩; obtain rfl := h.symm
      go_wp2_with fail
      refine (wright_ref_any _ _ hmb).mono ?_; rintro e w' ⟨rfl, h⟩; obtain rfl := h.symm
      go_wp2_with fail
      go_ret
      exact ⟨ret_int HR.out.symm, Below.refl _ _⟩
    · have hla : (ns (val (mag a))).length ≤ 100000 := ns_le_len (right_mag h1) (by have := mag_length a; omega) (Nat.le_refl _)
      have hlb : (ns (val (mag b))).length ≤ 100000 := ns_le_len (right_mag h2) (by have := mag_length b; omega) (Nat.le_refl _)
      cases hn : neg? a <;> cases hm : neg? b
      · have HR := Lib.hid (cmp_pp h1 h2 hn hm)
        go_enter Tryd.func31, Tryd.ntmps31
        go_wp2_with fail
        refine (wright_ref_any _ _ hma).mono ?_; rintro e w' ⟨rfl, h⟩; obtain rfl := h.symm
        go_wp2_with fail
        refine (wright_ref_any _ _ hmb).mono ?_; rintro e w' ⟨rfl, h⟩; obtain rfl := h.symm
        go_wp2_with fail
        refine (wparts_any a w (by omega) h1).mono ?_
        rintro e w1 ⟨A1, c1, rfl, hd1, hb1⟩
        go_wp2_with fail
        refine (wparts_any b w1 (by omega) h2).mono ?_
        rintro e w2 ⟨A2, c2, rfl, hd2, hb2⟩
        have hd1' := hd1.below hb2
        have hb12 := hb1.trans (hb2.mono hb1.size)
        rw [hm]
        go_wp2_with fail
        refine (wcompare_num _ _ A1 A2 c1 c2 w2 hd1' hd2 (by omega) (by omega)).mono ?_; rintro e w' ⟨rfl, h⟩; obtain rfl := h.symm
        go_wp2_with fail
        go_ret
        exact ⟨ret_int HR.out.symm, hb12⟩
      · have HR := Lib.hid (cmp_pn h1 h2 hn hm)
        go_enter Tryd.func31, Tryd.ntmps31
        go_wp2_with fail
        refine (wright_ref_any _ _ hma).mono ?_; rintro e w' ⟨rfl, h⟩; obtain rfl := h.symm
        go_wp2_with fail
        refine (wright_ref_any _ _ hmb).mono ?_; rintro e w' ⟨rfl, h⟩; obtain rfl := h.symm
        go_wp2_with fail
        refine (wparts_any a w (by omega) h1).mono ?_
        rintro e w1 ⟨A1, c1, rfl, hd1, hb1⟩
        go_wp2_with fail
        refine (wparts_any b w1 (by omega) h2).mono ?_
        rintro e w2 ⟨A2, c2, rfl, hd2, hb2⟩
        have hb12 := hb1.trans (hb2.mono hb1.size)
        rw [hm]
        go_wp2_with fail
        go_ret
        exact ⟨ret_int HR.out.symm, hb12⟩
      · have HR := Lib.hid (cmp_np h1 h2 hn hm)
        go_enter Tryd.func31, Tryd.ntmps31
        go_wp2_with fail
        refine (wright_ref_any _ _ hma).mono ?_; rintro e w' ⟨rfl, h⟩; obtain rfl := h.symm
        go_wp2_with fail
        refine (wright_ref_any _ _ hmb).mono ?_; rintro e w' ⟨rfl, h⟩; obtain rfl := h.symm
        go_wp2_with fail
        refine (wparts_any a w (by omega) h1).mono ?_
        rintro e w1 ⟨A1, c1, rfl, hd1, hb1⟩
        go_wp2_with fail
        refine (wparts_any b w1 (by omega) h2).mono ?_
        rintro e w2 ⟨A2, c2, rfl, hd2, hb2⟩
        have hb12 := hb1.trans (hb2.mono hb1.size)
        rw [hm]
        go_wp2_with fail
        go_ret
        exact ⟨ret_int HR.out.symm, hb12⟩
      · have HR := Lib.hid (cmp_nn h1 h2 hn hm)
        go_enter Tryd.func31, Tryd.ntmps31
        go_wp2_with fail
        refine (wright_ref_any _ _ hma).mono ?_; rintro e w' ⟨rfl, h⟩; obtain rfl := h.symm
        go_wp2_with fail
        refine (wright_ref_any _ _ hmb).mono ?_; rintro e w' ⟨rfl, h⟩; obtain rfl := h.symm
        go_wp2_with fail
        refine (wparts_any a w (by omega) h1).mono ?_
        rintro e w1 ⟨A1, c1, rfl, hd1, hb1⟩
        go_wp2_with fail
        refine (wparts_any b w1 (by omega) h2).mono ?_
        rintro e w2 ⟨A2, c2, rfl, hd2, hb2⟩
        have hd1' := hd1.below hb2
        have hb12 := hb1.trans (hb2.mono hb1.size)
        rw [hm]
        go_wp2_with fail
        refine (wcompare_num _ _ A2 A1 c2 c1 w2 hd2 hd1' (by omega) (by omega)).mono ?_; rintro e w' ⟨rfl, h⟩; obtain rfl := h.symm
        go_wp2_with fail
        go_ret
        exact ⟨ret_int HR.out.symm, hb12⟩
theorem wrsign_any (a : List UInt8) (w : World) (ha : a.length ≤ 1000000) :
    Calls Tryd.prog 29 #[.string (B a)] w fun e w' => e = .returned (.int .i64 (signIS a)) ∧ w' = w := by
  have hma : a.length ≤ maxLen := by unfold maxLen; omega
  cases h1 : rightI a
  · have HR := Lib.hid (show signIS a = 0 by rw [signIS, h1]; rfl)
    go_enter Tryd.func29, Tryd.ntmps29
    go_wp2_with fail
    refine (wright_ref_any _ _ hma).mono ?_; rintro e w' ⟨rfl, h⟩; obtain rfl := h.symm
    go_wp2_with fail
    go_ret
    exact ⟨ret_int HR.out.symm, rfl⟩
  · by_cases h0 : a = [48]
    · have HR := Lib.hid (show signIS a = 0 by rw [h0]; rfl)
      have h0' : (a == [48]) = true := by simpa using h0
      clear h0
      go_enter Tryd.func29, Tryd.ntmps29
      go_wp2_with fail
      refine (wright_ref_any _ _ hma).mono ?_; rintro e w' ⟨rfl, h⟩; obtain rfl := h.symm
      go_wp2_with fail
      go_ret
      exact ⟨ret_int HR.out.symm, rfl⟩
    · have h0' : (a == [48]) = false := by simpa using h0
      cases hn : neg? a
      · have h2 := neg_not hn
        have hp : 0 < a.length := by
          have := List.length_pos_iff.2 (right_ne (right_mag h1)); have := mag_length a; omega
        have h45 : (((at8 a 0).toNat : Int) == 45) = false := by
          have := h2.2 hp
          rw [beq_eq_false_iff_ne]; intro e; exact this (UInt8.toNat_inj.1 (by simp; omega))
        have HR := Lib.hid (show signIS a = 1 by
          have hv : val (mag a) ≠ 0 := by
            intro e
            apply h0
            have h3 := dec_mag h1
            rw [e, dec_zero, h2.1] at h3
            exact h3
          rw [signIS, if_pos h1, valI_sg, hn, sg_false, ordI, if_neg (by omega), if_pos (by omega)])
        clear h0 h2 hn
        go_enter Tryd.func29, Tryd.ntmps29
        go_wp2_with fail
        refine (wright_ref_any _ _ hma).mono ?_; rintro e w' ⟨rfl, h⟩; obtain rfl := h.symm
        go_wp2_with fail
        go_ret
        exact ⟨ret_int HR.out.symm, rfl⟩
      · have h2 := neg_at hn
        have h45 : (((at8 a 0).toNat : Int) == 45) = true := by rw [h2.1]; rfl
        have hp := h2.2.1
        have HR := Lib.hid (show signIS a = -1 by
          have hv := val_pos_neg h1 hn
          rw [signIS, if_pos h1, valI_sg, hn, sg_true, ordI, if_pos (by omega)])
        clear h0 h2 hn
        go_enter Tryd.func29, Tryd.ntmps29
        go_wp2_with fail
        refine (wright_ref_any _ _ hma).mono ?_; rintro e w' ⟨rfl, h⟩; obtain rfl := h.symm
        go_wp2_with fail
        go_ret
        exact ⟨ret_int HR.out.symm, rfl⟩
end Go.Proofs.YtkggdkkfdbbglaaDoor

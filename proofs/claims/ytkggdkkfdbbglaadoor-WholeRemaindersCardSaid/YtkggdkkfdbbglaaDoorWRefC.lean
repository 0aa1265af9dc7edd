/- The reference of whole: Right, Digits, check, result. -/
import Derived.Test.YtkggdkkfdbbglaaDoorWRefB
namespace Go.Proofs.YtkggdkkfdbbglaaDoor
open Go.RowKit Num
set_option linter.unusedVariables false
attribute [local go_sem] B_size B_get B_toList B_mk B_extract B_append
attribute [local go_sem high] run_max2

theorem isDig_no1 {c : UInt8} (h : c.toNat < 48) : isDig c = false := by unfold isDig; simp; omega
theorem isDig_no2 {c : UInt8} (h : 57 < c.toNat) : isDig c = false := by unfold isDig; simp; omega
theorem isDig_yes {c : UInt8} (h : 48 ≤ c.toNat) (h2 : c.toNat ≤ 57) : isDig c = true := by unfold isDig; simp; omega
theorem all_drop_no {l : Str} {f k : Nat} (h1 : f ≤ k) (h2 : k < l.length) (h3 : isDig (at8 l k) = false) : (l.drop f).all isDig = false := by
  rw [List.all_eq_false]
  refine ⟨l[k], ?_, by rw [← at8_eq l k h2, h3]; simp⟩
  rw [List.mem_drop_iff_getElem]
  exact ⟨k - f, by omega, by congr 1; omega⟩
theorem all_drop_snoc {l : Str} {f k : Nat} (h1 : f ≤ k) (h2 : k < l.length) (h3 : ((l.take k).drop f).all isDig = true) (h4 : isDig (at8 l k) = true) : ((l.take (k + 1)).drop f).all isDig = true := by
  rw [List.take_succ_eq_append_getElem h2, List.drop_append_of_le_length (by rw [List.length_take]; omega), List.all_append, h3]
  simpa [at8_eq l k h2] using h4
theorem head_drop {l : Str} {f : Nat} (h : f < l.length) : (l.drop f).head? = some (at8 l f) := by
  rw [List.drop_eq_getElem_cons h, at8_eq l f h]; rfl

set_option maxHeartbeats 1000000 in
theorem wright_ref_0 (l : List UInt8) (w : World) (hs : l.length ≤ maxLen) (hn : neg? l = false) :
    Calls Tryd.prog 25 #[.string (B l)] w fun e w' => e = .returned (.bool (rightI l)) ∧ w' = w := by
  unfold maxLen at hs
  have hmag : mag l = l.drop 0 := by exact (neg_not hn).1
  have N1 := Lib.hid (@rightI_no_empty l)
  have N2 := Lib.hid (@rightI_no_zero l)
  have N3 := Lib.hid (@rightI_no_digit l)
  have Y := Lib.hid (@rightI_yes l)
  rw [hmag] at N1 N2 N3 Y
  have h45 : 0 < l.length → (((at8 l 0).toNat : Int) == 45) = false := by
    intro hp
    have := (neg_not hn).2 hp
    rw [beq_eq_false_iff_ne]; intro e; exact this (UInt8.toNat_inj.1 (by simp; omega))
  by_cases hend : l.length ≤ 0
  · have HR := Lib.hid (N1.out (List.drop_of_length_le hend))
    have hl0 : l = [] := List.eq_nil_of_length_eq_zero (by omega)
    subst hl0
    clear h45 hend hmag hn
    go_enter Tryd.func25, Tryd.ntmps25
    go_wp2_with fail
    go_ret
    exact ⟨ret_bool HR.out.symm, rfl⟩
  · have hp : 0 < l.length := by omega
    have h45' := h45 hp
    have hfl : 0 < l.length := by omega
    have hL : ((l.length : Int) == 0) = false := by rw [beq_eq_false_iff_ne]; omega
    have HH := Lib.hid (head_drop hfl)
    clear h45 hend hmag hn
    go_enter Tryd.func25, Tryd.ntmps25
    go_wp2_with fail
    go_loop [4] (fun i => ∃ k : Nat, 0 ≤ k ∧ k ≤ l.length ∧ i = .int .i64 k ∧ ((l.take k).drop 0).all isDig = true) (fun i => l.length - (intOf i).toNat)
    case atStart => exact ⟨0, Nat.le_refl _, by omega, rfl, by rw [List.drop_of_length_le (by rw [List.length_take]; omega)]; rfl⟩
    case round =>
      obtain ⟨k, hfk, hk, rfl, hall⟩ := hrel
      have HA := Lib.hid hall
      clear hall
      by_cases hlt : k < l.length
      · by_cases h1 : (at8 l k).toNat < 48
        · have HR := Lib.hid (N3.out (all_drop_no hfk hlt (isDig_no1 h1)))
          have h1' : ((at8 l k).toNat : Int) < 48 := by omega
          clear h1
          go_wp2_with fail
          go_ret
          exact ⟨ret_bool HR.out.symm, rfl⟩
        · have h1' : ¬ ((at8 l k).toNat : Int) < 48 := by omega
          by_cases h2 : 57 < (at8 l k).toNat
          · have HR := Lib.hid (N3.out (all_drop_no hfk hlt (isDig_no2 h2)))
            have h2' : 57 < ((at8 l k).toNat : Int) := by omega
            clear h1 h2
            go_wp2_with fail
            go_ret
            exact ⟨ret_bool HR.out.symm, rfl⟩
          · have HS := Lib.hid (all_drop_snoc hfk hlt HA.out (isDig_yes (by omega) (by omega)))
            have h2' : ¬ 57 < ((at8 l k).toNat : Int) := by omega
            clear h1 h2
            go_wp2_with fail
            go_round
            case rel => exact ⟨k + 1, by omega, by omega, by go_num, HS.out⟩
            case measure => simp [intOf]; omega
      · obtain rfl : k = l.length := by omega
        have had : (l.drop 0).all isDig = true := by have := HA.out; rwa [List.take_of_length_le (Nat.le_refl _)] at this
        have hdne : l.drop 0 ≠ [] := by intro e; have := congrArg List.length e; rw [List.length_drop, List.length_nil] at this; omega
        by_cases hz : at8 l 0 = 48
        · have hz' : (((at8 l 0).toNat : Int) != 48) = false := by rw [hz]; rfl
          by_cases hl : l = [48]
          · have HR := Lib.hid (Y.out hdne (.inr hl) had)
            have hl' : (l == [48]) = true := by simpa using hl
            clear hz hl had hdne
            go_wp2_with fail
            go_ret
            exact ⟨ret_bool HR.out.symm, rfl⟩
          · have HR := Lib.hid (N2.out (by rw [HH.out, hz]) hl)
            have hl' : (l == [48]) = false := by simpa using hl
            clear hz hl had hdne
            go_wp2_with fail
            go_ret
            exact ⟨ret_bool HR.out.symm, rfl⟩
        · have hz' : (((at8 l 0).toNat : Int) != 48) = true := by
            have : ((at8 l 0).toNat : Int) ≠ 48 := fun e => hz (UInt8.toNat_inj.1 (by simp; omega))
            simpa using this
          have HR := Lib.hid (Y.out hdne (.inl (by rw [HH.out]; simpa using hz)) had)
          clear hz had hdne
          go_wp2_with fail
          go_ret
          exact ⟨ret_bool HR.out.symm, rfl⟩

set_option maxHeartbeats 1000000 in
theorem wright_ref_1 (l : List UInt8) (w : World) (hs : l.length ≤ maxLen) (hn : neg? l = true) :
    Calls Tryd.prog 25 #[.string (B l)] w fun e w' => e = .returned (.bool (rightI l)) ∧ w' = w := by
  unfold maxLen at hs
  have hmag : mag l = l.drop 1 := by exact (neg_at hn).2.2
  have N1 := Lib.hid (@rightI_no_empty l)
  have N2 := Lib.hid (@rightI_no_zero l)
  have N3 := Lib.hid (@rightI_no_digit l)
  have Y := Lib.hid (@rightI_yes l)
  rw [hmag] at N1 N2 N3 Y
  have h45 : 0 < l.length → (((at8 l 0).toNat : Int) == 45) = true := by
    intro hp
    rw [(neg_at hn).1]; rfl
  by_cases hend : l.length ≤ 1
  · have HR := Lib.hid (N1.out (List.drop_of_length_le hend))
    have hp := (neg_at hn).2.1
    have h45' := h45 hp
    have hL : ((l.length : Int) == 1) = true := by simp; omega
    clear h45 hend hmag hn
    go_enter Tryd.func25, Tryd.ntmps25
    go_wp2_with fail
    go_ret
    exact ⟨ret_bool HR.out.symm, rfl⟩
  · have hp : 0 < l.length := by omega
    have h45' := h45 hp
    have hfl : 1 < l.length := by omega
    have hL : ((l.length : Int) == 1) = false := by rw [beq_eq_false_iff_ne]; omega
    have HH := Lib.hid (head_drop hfl)
    clear h45 hend hmag hn
    go_enter Tryd.func25, Tryd.ntmps25
    go_wp2_with fail
    go_loop [4] (fun i => ∃ k : Nat, 1 ≤ k ∧ k ≤ l.length ∧ i = .int .i64 k ∧ ((l.take k).drop 1).all isDig = true) (fun i => l.length - (intOf i).toNat)
    case atStart => exact ⟨1, Nat.le_refl _, by omega, rfl, by rw [List.drop_of_length_le (by rw [List.length_take]; omega)]; rfl⟩
    case round =>
      obtain ⟨k, hfk, hk, rfl, hall⟩ := hrel
      have HA := Lib.hid hall
      clear hall
      by_cases hlt : k < l.length
      · by_cases h1 : (at8 l k).toNat < 48
        · have HR := Lib.hid (N3.out (all_drop_no hfk hlt (isDig_no1 h1)))
          have h1' : ((at8 l k).toNat : Int) < 48 := by omega
          clear h1
          go_wp2_with fail
          go_ret
          exact ⟨ret_bool HR.out.symm, rfl⟩
        · have h1' : ¬ ((at8 l k).toNat : Int) < 48 := by omega
          by_cases h2 : 57 < (at8 l k).toNat
          · have HR := Lib.hid (N3.out (all_drop_no hfk hlt (isDig_no2 h2)))
            have h2' : 57 < ((at8 l k).toNat : Int) := by omega
            clear h1 h2
            go_wp2_with fail
            go_ret
            exact ⟨ret_bool HR.out.symm, rfl⟩
          · have HS := Lib.hid (all_drop_snoc hfk hlt HA.out (isDig_yes (by omega) (by omega)))
            have h2' : ¬ 57 < ((at8 l k).toNat : Int) := by omega
            clear h1 h2
            go_wp2_with fail
            go_round
            case rel => exact ⟨k + 1, by omega, by omega, by go_num, HS.out⟩
            case measure => simp [intOf]; omega
      · obtain rfl : k = l.length := by omega
        have had : (l.drop 1).all isDig = true := by have := HA.out; rwa [List.take_of_length_le (Nat.le_refl _)] at this
        have hdne : l.drop 1 ≠ [] := by intro e; have := congrArg List.length e; rw [List.length_drop, List.length_nil] at this; omega
        by_cases hz : at8 l 1 = 48
        · have hz' : (((at8 l 1).toNat : Int) != 48) = false := by rw [hz]; rfl
          by_cases hl : l = [48]
          · have HR := Lib.hid (Y.out hdne (.inr hl) had)
            have hl' : (l == [48]) = true := by simpa using hl
            clear hz hl had hdne
            go_wp2_with fail
            go_ret
            exact ⟨ret_bool HR.out.symm, rfl⟩
          · have HR := Lib.hid (N2.out (by rw [HH.out, hz]) hl)
            have hl' : (l == [48]) = false := by simpa using hl
            clear hz hl had hdne
            go_wp2_with fail
            go_ret
            exact ⟨ret_bool HR.out.symm, rfl⟩
        · have hz' : (((at8 l 1).toNat : Int) != 48) = true := by
            have : ((at8 l 1).toNat : Int) ≠ 48 := fun e => hz (UInt8.toNat_inj.1 (by simp; omega))
            simpa using this
          have HR := Lib.hid (Y.out hdne (.inl (by rw [HH.out]; simpa using hz)) had)
          clear hz had hdne
          go_wp2_with fail
          go_ret
          exact ⟨ret_bool HR.out.symm, rfl⟩

theorem wright_ref_any (l : List UInt8) (w : World) (hs : l.length ≤ maxLen) :
    Calls Tryd.prog 25 #[.string (B l)] w fun e w' => e = .returned (.bool (rightI l)) ∧ w' = w := by
  cases h : neg? l
  · exact wright_ref_0 l w hs h
  · exact wright_ref_1 l w hs h
theorem wdigits_any (l : List UInt8) (w : World) (hs : l.length ≤ maxLen) :
    Calls Tryd.prog 50 #[.string (B l)] w fun e w' => e = .returned (.int .i64 ((mag l).length : Int)) ∧ w' = w := by
  unfold maxLen at hs
  cases hn : neg? l
  · have h1 := neg_not hn
    rw [h1.1]
    by_cases h0 : l = []
    · subst h0
      clear h1 hn
      go_enter Tryd.func50, Tryd.ntmps50
      go_wp2_with fail
      go_ret
      exact ⟨rfl, rfl⟩
    · have hp : 0 < l.length := List.length_pos_iff.2 h0
      have h45 : (((at8 l 0).toNat : Int) == 45) = false := by
        have := h1.2 hp
        rw [beq_eq_false_iff_ne]; intro e; exact this (UInt8.toNat_inj.1 (by simp; omega))
      clear h0 h1 hn
      go_enter Tryd.func50, Tryd.ntmps50
      go_wp2_with fail
      go_ret
      exact ⟨rfl, rfl⟩
  · have h1 := neg_at hn
    have hp := h1.2.1
    have h45 : (((at8 l 0).toNat : Int) == 45) = true := by rw [h1.1]; rfl
    have HM := Lib.hid (show ((l.length : Int) - 1) = ((mag l).length : Int) by rw [h1.2.2, List.length_drop]; omega)
    clear h1 hn
    go_enter Tryd.func50, Tryd.ntmps50
    go_wp2_with fail
    go_ret
    exact ⟨ret_int HM.out, rfl⟩
theorem wcheck_any (a b : List UInt8) (w : World) (ha : a.length ≤ maxLen) (hb : b.length ≤ maxLen) :
    Calls Tryd.prog 40 #[.string (B a), .string (B b)] w fun e w' => e = .returned (.int .i64 (errI a b)) ∧ w' = w := by
  have hma := mag_length a
  have hmb := mag_length b
  cases h1 : rightI a
  · have HR := Lib.hid (show errI a b = 3 by rw [errI, if_neg (by simp [h1])])
    go_enter Tryd.func40, Tryd.ntmps40
    go_wp2_with fail
    refine (wright_ref_any _ _ ha).mono ?_; rintro e w' ⟨rfl, rfl⟩
    go_wp2_with fail
    go_ret
    exact ⟨ret_int HR.out.symm, rfl⟩
  · cases h2 : rightI b
    · have HR := Lib.hid (show errI a b = 3 by rw [errI, if_neg (by simp [h2])])
      go_enter Tryd.func40, Tryd.ntmps40
      go_wp2_with fail
      refine (wright_ref_any _ _ ha).mono ?_; rintro e w' ⟨rfl, rfl⟩
      go_wp2_with fail
      refine (wright_ref_any _ _ hb).mono ?_; rintro e w' ⟨rfl, rfl⟩
      go_wp2_with fail
      go_ret
      exact ⟨ret_int HR.out.symm, rfl⟩
    · have ha' := ha
      have hb' := hb
      unfold maxLen at ha' hb'
      by_cases h4 : 4096 < (mag a).length
      · have HR := Lib.hid (show errI a b = 4 by rw [errI, if_pos ⟨h1, h2⟩, if_neg (by omega)])
        go_enter Tryd.func40, Tryd.ntmps40
        go_wp2_with fail
        refine (wright_ref_any _ _ ha).mono ?_; rintro e w' ⟨rfl, rfl⟩
        go_wp2_with fail
        refine (wright_ref_any _ _ hb).mono ?_; rintro e w' ⟨rfl, rfl⟩
        go_wp2_with fail
        refine (wdigits_any _ _ ha).mono ?_; rintro e w' ⟨rfl, rfl⟩
        go_wp2_with fail
        go_ret
        exact ⟨ret_int HR.out.symm, rfl⟩
      · by_cases h5 : 4096 < (mag b).length
        · have HR := Lib.hid (show errI a b = 4 by rw [errI, if_pos ⟨h1, h2⟩, if_neg (by omega)])
          go_enter Tryd.func40, Tryd.ntmps40
          go_wp2_with fail
          refine (wright_ref_any _ _ ha).mono ?_; rintro e w' ⟨rfl, rfl⟩
          go_wp2_with fail
          refine (wright_ref_any _ _ hb).mono ?_; rintro e w' ⟨rfl, rfl⟩
          go_wp2_with fail
          refine (wdigits_any _ _ ha).mono ?_; rintro e w' ⟨rfl, rfl⟩
          go_wp2_with fail
          refine (wdigits_any _ _ hb).mono ?_; rintro e w' ⟨rfl, rfl⟩
          go_wp2_with fail
          go_ret
          exact ⟨ret_int HR.out.symm, rfl⟩
        · have HR := Lib.hid (show errI a b = 0 by rw [errI, if_pos ⟨h1, h2⟩, if_pos (by omega)])
          go_enter Tryd.func40, Tryd.ntmps40
          go_wp2_with fail
          refine (wright_ref_any _ _ ha).mono ?_; rintro e w' ⟨rfl, rfl⟩
          go_wp2_with fail
          refine (wright_ref_any _ _ hb).mono ?_; rintro e w' ⟨rfl, rfl⟩
          go_wp2_with fail
          refine (wdigits_any _ _ ha).mono ?_; rintro e w' ⟨rfl, rfl⟩
          go_wp2_with fail
          refine (wdigits_any _ _ hb).mono ?_; rintro e w' ⟨rfl, rfl⟩
          go_wp2_with fail
          go_ret
          exact ⟨ret_int HR.out.symm, rfl⟩
theorem wresult_any (z : Int) (w : World) (hl : (decI z).length ≤ maxLen) :
    Calls Tryd.prog 47 #[.string (B (decI z))] w fun e w' => e = .returned (.tuple #[.string (B (resIS z)), .int .i64 (resIE z)]) ∧ w' = w := by
  have hm := mag_length (decI z)
  have hl' := hl
  unfold maxLen at hl'
  have HM := Lib.hid (mag_decI z)
  by_cases h : (dec z.natAbs).length ≤ 4096
  · have HR := Lib.hid (show resIS z = decI z ∧ resIE z = 0 from ⟨if_pos h, if_pos h⟩)
    go_enter Tryd.func47, Tryd.ntmps47
    go_wp2_with fail
    refine (wdigits_any _ _ hl).mono ?_; rw [HM.out]; rintro e w' ⟨rfl, rfl⟩
    go_wp2_with fail
    go_ret2
    exact ⟨by rw [HR.out.1, HR.out.2]; rfl, rfl⟩
  · have HR := Lib.hid (show resIS z = [] ∧ resIE z = 4 from ⟨if_neg h, if_neg h⟩)
    have h' : 4096 < (dec z.natAbs).length := by omega
    go_enter Tryd.func47, Tryd.ntmps47
    go_wp2_with fail
    refine (wdigits_any _ _ hl).mono ?_; rw [HM.out]; rintro e w' ⟨rfl, rfl⟩
    go_wp2_with fail
    go_ret2
    exact ⟨by rw [HR.out.1, HR.out.2]; rfl, rfl⟩
end Go.Proofs.YtkggdkkfdbbglaaDoor

/- The reference of whole: Div, Of, Int. -/
import Derived.Test.YtkggdkkfdbbglaaDoorWRefH
namespace Go.Proofs.YtkggdkkfdbbglaaDoor
open Go.RowKit Num
set_option linter.unusedVariables false
attribute [local go_sem] B_size B_get B_toList B_mk B_extract B_append
attribute [local go_sem high] run_max2

theorem ret_ssi {a b a' b' : List UInt8} {c d : Int} (h : a = a') (h1 : b = b') (h2 : c = d) : Ending.returned (.tuple #[.string (B a), .string (B b), .int .i64 c]) = .returned (.tuple #[.string (B a'), .string (B b'), .int .i64 d]) := by rw [h, h1, h2]
theorem ns_one : ns 1 = [1] := by rw [ns_pos (by omega), show 1 / 10 = 0 from rfl, ns_zero]
theorem dig_one (w : World) : DigAt (w.alloc (.cells #[.int .i64 1] 3)) (some ⟨w.heap.size, 0, none⟩) 1 1 := by
  have h := OwnS.lit w 3 #[.int .i64 1] w.heap.size 1 (Nat.le_refl _) rfl (by unfold maxLen; omega)
  refine ⟨?_, by rw [ns_one]; exact Nat.le_refl _, by unfold maxLen; omega⟩
  rw [ns_one]; exact h.cells
theorem divI_err {a b : Str} (he : errI a b ≠ 0) : divIQ a b = [] ∧ divIR a b = [] ∧ divIE a b = errI a b := by
  have h : divIE a b = errI a b := if_neg he
  exact ⟨if_neg (by rw [h]; exact he), if_neg (by rw [h]; exact he), h⟩
theorem divI_zero {a b : Str} (he : errI a b = 0) (hb : valI b = 0) : divIQ a b = [] ∧ divIR a b = [] ∧ divIE a b = 10 := by
  have h : divIE a b = 10 := by rw [divIE, if_pos he, if_pos hb]
  exact ⟨if_neg (by rw [h]; decide), if_neg (by rw [h]; decide), h⟩
theorem divI_ok {a b : Str} (he : errI a b = 0) (hb : valI b ≠ 0) : divIQ a b = decI (qI (valI a) (valI b)) ∧ divIR a b = decI (rI (valI a) (valI b)) ∧ divIE a b = 0 := by
  have h : divIE a b = 0 := by rw [divIE, if_pos he, if_neg hb]
  exact ⟨if_pos h, if_pos h, h⟩

set_option maxHeartbeats 2000000 in
theorem wrdiv_any (a b : List UInt8) (w : World) (ha : a.length ≤ 1000000) (hb : b.length ≤ 1000000) :
    Calls Tryd.prog 13 #[.string (B a), .string (B b)] w fun e w' => e = .returned (.tuple #[.string (B (divIQ a b)), .string (B (divIR a b)), .int .i64 (divIE a b)]) ∧ Below w.heap.size w w' := by
  have hma : a.length ≤ maxLen := by unfold maxLen; omega
  have hmb : b.length ≤ maxLen := by unfold maxLen; omega
  by_cases he : errI a b = 0
  · obtain ⟨h1, h2, h3, h4⟩ := errI_zero.1 he
    obtain ⟨hla, hlb⟩ := errI_len he
    have HE := Lib.hid he
    have HA := Lib.hid (valI_sg a)
    have HB := Lib.hid (valI_sg b)
    have HZ := Lib.hid (fun hb => divI_zero (a := a) (b := b) he hb)
    have HO := Lib.hid (fun hb => divI_ok (a := a) (b := b) he hb)
    go_enter Tryd.func13, Tryd.ntmps13
    go_wp2_with fail
    refine (wcheck_any a b w hma hmb).mono ?_; rw [HE.out]; rintro e w' ⟨rfl, h⟩
    obtain rfl := h.symm
    go_wp2_with fail
    refine (wparts_any a w ha h1).mono ?_
    rintro e w1 ⟨A1, c1, rfl, hd1, hb1⟩
    go_wp2_with fail
    refine (wparts_any b w1 hb h2).mono ?_
    rintro e w2 ⟨A2, c2, rfl, hd2, hb2⟩
    have hd1' := hd1.below hb2
    have hb12 := hb1.trans (hb2.mono hb1.size)
    clear hd1 he
    generalize val (mag a) = x at *
    generalize val (mag b) = y at *
    by_cases hy : y = 0
    · have HR := Lib.hid (HZ.out (by rw [HB.out, hy, sg_zero]))
      have hy0 : (((ns y).length : Int) == 0) = true := by rw [hy, ns_zero]; rfl
      clear hy
      go_wp2_with fail
      go_ret3
      exact ⟨ret_ssi HR.out.1.symm HR.out.2.1.symm HR.out.2.2.symm, hb12⟩
    have hyp : 0 < y := by omega
    have hy0 : (((ns y).length : Int) == 0) = false := by
      rw [beq_eq_false_iff_ne]
      intro e
      have : (ns y).length = 0 := by omega
      exact hy (ns_eq_nil.1 (List.eq_nil_of_length_eq_zero this))
    have HR := Lib.hid (HO.out (by
      rw [HB.out]; intro e
      have := congrArg Int.natAbs e
      rw [sg_abs] at this; exact hy this))
    have hlq : (ns (x / y)).length ≤ 4096 := Nat.le_trans (ns_length_mono (Nat.div_le_self x y)) hla
    have hlr : (ns (x % y)).length ≤ 4096 := Nat.le_trans (ns_length_mono (Nat.le_of_lt (Nat.mod_lt x hyp))) hlb
    clear hy
    go_wp2_with fail
    refine (wdivide_any x y A1 A2 c1 c2 w2 hd1' hd2 (by omega) (by omega) hyp).mono ?_
    rintro e w3 ⟨A3, c3, A4, c4, rfl, hd3, hd4, hb3⟩
    have hb13 := hb12.trans (hb3.mono hb12.size)
    have hd2' := hd2.below hb3
    clear hd1'
    generalize neg? a = sa at *
    generalize neg? b = sb at *
    have hsel : (sa = sb) ∨ ((sa = true ∧ sb = false) ∨ (sa = false ∧ sb = true)) := by cases sa <;> cases sb <;> simp
    by_cases hmn : sa = sb
    · have HQ := Lib.hid (div_same sb (x := x) (y := y) hyp)
      have HMN := Lib.hid hmn
      have HT1 := Lib.hid (fun w hd => wtext_num false (x / y) A3 c3 w hd (by omega))
      have HT2 := Lib.hid (fun w hd => wtext_num sb (x % y) A4 c4 w hd (by omega))
      clear hsel hmn
      generalize x / y = q at *
      generalize x % y = r at *
      have hss := HMN.out
      subst hss
      cases sa
      all_goals
        go_wp2_with fail
        refine (HT1.out w3 hd3).mono ?_
        rintro e w4 ⟨rfl, hb4⟩
        have hb14 := hb13.trans (hb4.mono hb13.size)
        go_wp2_with fail
        refine (HT2.out w4 (hd4.below hb4)).mono ?_
        rintro e w5 ⟨rfl, hb5⟩
        go_wp2_with fail
        go_ret3
        exact ⟨ret_ssi (by rw [HR.out.1, HA.out, HB.out, HQ.out.1]; rfl) (by rw [HR.out.2.1, HA.out, HB.out, HQ.out.2]) HR.out.2.2.symm, hb14.trans (hb5.mono hb14.size)⟩
    · by_cases hr0 : x % y = 0
      · have HQ := Lib.hid (div_exact hmn hyp hr0)
        have HT1 := Lib.hid (fun w hd => wtext_num true (x / y) A3 c3 w hd (by omega))
        have HT2 := Lib.hid (fun w hd => wtext_num sb (x % y) A4 c4 w hd (by omega))
        have HR0 := Lib.hid hr0
        have hz : decide (0 < (ns (x % y)).length) = false := by rw [hr0, ns_zero]; simp
        have hz' : ¬ (0 : Int) < ((ns (x % y)).length : Int) := by rw [hr0, ns_zero]; simp
        have hsel2 : (sa = true ∧ sb = false) ∨ (sa = false ∧ sb = true) := by rcases hsel with h | h; exact absurd h hmn; exact h
        clear hsel hmn hr0
        generalize x / y = q at *
        generalize x % y = r at *
        rcases hsel2 with ⟨rfl, rfl⟩ | ⟨rfl, rfl⟩
        all_goals
          go_wp2_with fail
          refine (HT1.out w3 hd3).mono ?_
          rintro e w4 ⟨rfl, hb4⟩
          have hb14 := hb13.trans (hb4.mono hb13.size)
          go_wp2_with fail
          refine (HT2.out w4 (hd4.below hb4)).mono ?_
          rintro e w5 ⟨rfl, hb5⟩
          go_wp2_with fail
          go_ret3
          exact ⟨ret_ssi (by rw [HR.out.1, HA.out, HB.out, HQ.out.1]) (by rw [HR.out.2.1, HA.out, HB.out, HQ.out.2, HR0.out, sg_zero]) HR.out.2.2.symm, hb14.trans (hb5.mono hb14.size)⟩
      · have HQ := Lib.hid (div_other hmn hyp hr0)
        have hrn : 0 < (ns (x % y)).length := List.length_pos_iff.2 (fun e => hr0 (ns_eq_nil.1 e))
        have hrp : (0 : Int) < ((ns (x % y)).length : Int) := by omega
        have hrd : decide (0 < (ns (x % y)).length) = true := by simpa using hrn
        have hl1 := ns_add_len (a := x / y) (b := 1) (k := 4096) hlq (by rw [ns_one]; simp)
        have hl2 : (ns (y - x % y)).length ≤ 4096 := Nat.le_trans (ns_length_mono (by omega)) hlb
        have hle : x % y ≤ y := Nat.le_of_lt (Nat.mod_lt x hyp)
        have HP := Lib.hid (fun A c w hd => wplus_any (x / y) 1 A3 A c3 c w hd)
        have HM := Lib.hid (fun w hy hr => wminus_any y (x % y) A2 A4 c2 c4 w hy hr (by omega) hle)
        have HT1 := Lib.hid (fun A c w hd => wtext_num true (x / y + 1) A c w hd (by omega))
        have HT2 := Lib.hid (fun A c w hd => wtext_num sb (y - x % y) A c w hd (by omega))
        have hd1o := dig_one w3
        have hl1' : (ns 1).length = 1 := by rw [ns_one]; rfl
        have HL1 := Lib.hid hl1'
        have hal : Below w3.heap.size w3 (w3.alloc (.cells #[.int .i64 1] 3)) := (Below.refl _ _).alloc (Nat.le_refl _) _
        have hsel2 : (sa = true ∧ sb = false) ∨ (sa = false ∧ sb = true) := by rcases hsel with h | h; exact absurd h hmn; exact h
        clear hsel hmn hr0 hl1'
        generalize x / y + 1 = q1 at *
        generalize y - x % y = r1 at *
        generalize x / y = q at *
        generalize x % y = r at *
        rcases hsel2 with ⟨rfl, rfl⟩ | ⟨rfl, rfl⟩
        all_goals
          go_wp2_with fail
          have hP := HP.out (some ⟨w3.heap.size, 0, none⟩) 1 _ (hd3.below hal) hd1o (by omega) (by rw [HL1.out]; omega)
          rw [HL1.out] at hP
          refine hP.mono ?_
          rintro e w4 ⟨A5, c5, rfl, hd5, hb4⟩
          have hbx : Below w3.heap.size w3 w4 := hal.trans (hb4.mono hal.size)
          have hb14 := hb13.trans (hbx.mono hb13.size)
          clear hP hb4
          go_wp2_with fail
          refine (HM.out w4 (hd2'.below hbx) (hd4.below hbx)).mono ?_
          rintro e w5 ⟨A6, c6, rfl, hd6, _, hb5⟩
          have hb15 := hb14.trans (hb5.mono hb14.size)
          have hd5' := hd5.below hb5
          go_wp2_with fail
          refine (HT1.out A5 c5 w5 hd5').mono ?_
          rintro e w6 ⟨rfl, hb6⟩
          have hb16 := hb15.trans (hb6.mono hb15.size)
          go_wp2_with fail
          refine (HT2.out A6 c6 w6 (hd6.below hb6)).mono ?_
          rintro e w7 ⟨rfl, hb7⟩
          go_wp2_with fail
          go_ret3
          exact ⟨ret_ssi (by rw [HR.out.1, HA.out, HB.out, HQ.out.1]) (by rw [HR.out.2.1, HA.out, HB.out, HQ.out.2]) HR.out.2.2.symm, hb16.trans (hb7.mono hb16.size)⟩
  · have HR := Lib.hid (divI_err he)
    have hne : (errI a b != 0) = true := by simpa using he
    clear he
    go_enter Tryd.func13, Tryd.ntmps13
    go_wp2_with fail
    refine (wcheck_any a b w hma hmb).mono ?_; rintro e w' ⟨rfl, h⟩
    obtain rfl := h.symm
    go_wp2_with fail
    go_ret3
    exact ⟨ret_ssi HR.out.1.symm HR.out.2.1.symm HR.out.2.2.symm, Below.refl _ _⟩
end Go.Proofs.YtkggdkkfdbbglaaDoor

/- The reference of whole: sum, Add, Sub, Mul, Neg, Abs, Compare, Sign. -/
import Derived.Test.YtkggdkkfdbbglaaDoorWRefF
namespace Go.Proofs.YtkggdkkfdbbglaaDoor
open Go.RowKit Num
set_option linter.unusedVariables false
attribute [local go_sem] B_size B_get B_toList B_mk B_extract B_append
attribute [local go_sem high] run_max2

theorem ns_add_len {a b k : Nat} (ha : (ns a).length ≤ k) (hb : (ns b).length ≤ k) : (ns (a + b)).length ≤ k + 1 := by
  have h1 := ns_length_le.1 ha
  have h2 := ns_length_le.1 hb
  refine ns_length_le.2 ?_
  rw [Nat.pow_succ]; omega
theorem ns_mul_len {a b k m : Nat} (ha : (ns a).length ≤ k) (hb : (ns b).length ≤ m) : (ns (a * b)).length ≤ k + m := by
  have h1 := ns_length_le.1 ha
  have h2 := ns_length_le.1 hb
  refine ns_length_le.2 ?_
  rw [Nat.pow_add]
  rcases Nat.eq_zero_or_pos b with h0 | h0
  · subst h0; rw [Nat.mul_zero]; exact Nat.mul_pos (Nat.pow_pos (by omega)) (Nat.pow_pos (by omega))
  · exact Nat.lt_of_lt_of_le (Nat.mul_lt_mul_of_pos_right h1 h0) (Nat.mul_le_mul_left _ (Nat.le_of_lt h2))
theorem ns_le_len {a k : Nat} {l : Str} (h : right l = true) (hl : l.length ≤ k) (ha : a ≤ val l) : (ns a).length ≤ k := by
  refine ns_length_le.2 ?_
  have := val_lt_len h
  have := Nat.pow_le_pow_right (show 0 < 10 by omega) hl
  omega
theorem dec_len_ns (n : Nat) : (dec n).length ≤ (ns n).length + 1 := by
  by_cases h : n = 0
  · subst h; rw [dec_zero]; simp
  · rw [ns_len h]; omega
theorem decI_len {z : Int} {k : Nat} (h : (ns z.natAbs).length ≤ k) : (decI z).length ≤ k + 2 := by
  have h1 := mag_length_decI z
  have h2 := dec_len_ns z.natAbs
  omega
theorem sg_add_abs (m n : Bool) (a b : Nat) : (sg m a + sg n b).natAbs ≤ a + b := by cases m <;> cases n <;> simp [sg] <;> omega
theorem wtext_num (neg : Bool) (v : Nat) (A : Option Addr) (c : Nat) (w : World) (hd : DigAt w A c v) (hl : (ns v).length ≤ 1000000) :
    Calls Tryd.prog 45 #[.bool neg, .slice A (ns v).length c] w fun e w' => e = .returned (.string (B (decI (sg neg v)))) ∧ Below w.heap.size w w' := by
  have h := wtext_any neg (ns v) A c w (digl_ns v) hl hd.le hd.cap hd.cells
  rwa [lw_ns] at h
theorem wcompare_num (a b : Nat) (A A' : Option Addr) (c c' : Nat) (w : World) (hA : DigAt w A c a) (hB : DigAt w A' c' b) (hla : (ns a).length ≤ 1000000) (hlb : (ns b).length ≤ 1000000) :
    Calls Tryd.prog 54 #[.slice A (ns a).length c, .slice A' (ns b).length c'] w fun e w' => e = .returned (.int .i64 (ordI a b)) ∧ w' = w := by
  have h := wcompare_any (ns a) (ns b) A A' c c' w (digl_ns a) (digl_ns b) hla hlb hA.le hB.le hA.cap hB.cap hA.cells hB.cells
  rwa [lw_ns, lw_ns] at h

set_option maxHeartbeats 1000000 in
theorem wsum_any (m n : Bool) (a b : Nat) (A A' : Option Addr) (c c' : Nat) (w : World) (hA : DigAt w A c a) (hB : DigAt w A' c' b) (hla : (ns a).length ≤ 100000) (hlb : (ns b).length ≤ 100000) :
    Calls Tryd.prog 48 #[.bool m, .slice A (ns a).length c, .bool n, .slice A' (ns b).length c'] w fun e w' => e = .returned (.string (B (decI (sg m a + sg n b)))) ∧ Below w.heap.size w w' := by
  by_cases hmn : m = n
  · subst hmn
    have HR := Lib.hid (sum_same m a b)
    have hl2 := ns_add_len (k := 100000) hla hlb
    have hb : (m == m) = true := by simp
    have HP := Lib.hid (wplus_any a b A A' c c' w hA hB (by omega) (by omega))
    have HT := Lib.hid (fun A c w hd => wtext_num m (a + b) A c w hd (by omega))
    generalize a + b = s at *
    generalize ns a = xs at *
    generalize ns b = ys at *
    go_enter Tryd.func48, Tryd.ntmps48
    go_wp2_with fail
    refine HP.out.mono ?_
    rintro e w1 ⟨A1, c1, rfl, hd1, hb1⟩
    go_wp2_with fail
    refine (HT.out A1 c1 w1 hd1).mono ?_
    rintro e w2 ⟨rfl, hb2⟩
    go_wp2_with fail
    go_ret
    exact ⟨ret_str (by rw [HR.out]), hb1.trans (hb2.mono hb1.size)⟩
  · have hb : (m == n) = false := by simpa using hmn
    have HC := Lib.hid (wcompare_num a b A A' c c' w hA hB (by omega) (by omega))
    by_cases hge : b ≤ a
    · have HR := Lib.hid (sum_more hmn hge)
      have HM := Lib.hid (wminus_any a b A A' c c' w hA hB (by omega) hge)
      have hl2 : (ns (a - b)).length ≤ 100000 := Nat.le_trans (ns_length_mono (by omega)) hla
      have HT := Lib.hid (fun A c w hd => wtext_num m (a - b) A c w hd (by omega))
      obtain ⟨o, ho, hop⟩ : ∃ o, ordI a b = o ∧ 0 ≤ o := by
        refine ⟨_, rfl, ?_⟩
        unfold ordI; rw [if_neg (by omega)]; split <;> omega
      have HO := Lib.hid ho
      clear hmn ho
      generalize a - b = s at *
      go_enter Tryd.func48, Tryd.ntmps48
      go_wp2_with fail
      refine HC.out.mono ?_
      rw [HO.out]
      rintro e w' ⟨rfl, h⟩
      obtain rfl := h.symm
      go_wp2_with fail
      refine HM.out.mono ?_
      rintro e w1 ⟨A1, c1, rfl, hd1, _, hb1⟩
      go_wp2_with fail
      refine (HT.out A1 c1 w1 hd1).mono ?_
      rintro e w2 ⟨rfl, hb2⟩
      go_wp2_with fail
      go_ret
      exact ⟨ret_str (by rw [HR.out]), hb1.trans (hb2.mono hb1.size)⟩
    · have HR := Lib.hid (sum_less (m := m) (n := n) hmn (show a < b by omega))
      have HM := Lib.hid (wminus_any b a A' A c' c w hB hA (by omega) (by omega))
      have hl2 : (ns (b - a)).length ≤ 100000 := Nat.le_trans (ns_length_mono (by omega)) hlb
      have HT := Lib.hid (fun A c w hd => wtext_num n (b - a) A c w hd (by omega))
      obtain ⟨o, ho, hop⟩ : ∃ o, ordI a b = o ∧ ¬ 0 ≤ o := by
        refine ⟨_, rfl, ?_⟩
        unfold ordI; rw [if_pos (by omega)]; omega
      have HO := Lib.hid ho
      clear hmn ho
      generalize b - a = s at *
      go_enter Tryd.func48, Tryd.ntmps48
      go_wp2_with fail
      refine HC.out.mono ?_
      rw [HO.out]
      rintro e w' ⟨rfl, h⟩
      obtain rfl := h.symm
      go_wp2_with fail
      refine HM.out.mono ?_
      rintro e w1 ⟨A1, c1, rfl, hd1, _, hb1⟩
      go_wp2_with fail
      refine (HT.out A1 c1 w1 hd1).mono ?_
      rintro e w2 ⟨rfl, hb2⟩
      go_wp2_with fail
      go_ret
      exact ⟨ret_str (by rw [HR.out]), hb1.trans (hb2.mono hb1.size)⟩
theorem ret_si {a b : List UInt8} {c d : Int} (h : a = b) (h2 : c = d) : Ending.returned (.tuple #[.string (B a), .int .i64 c]) = .returned (.tuple #[.string (B b), .int .i64 d]) := by rw [h, h2]
/-- what both arguments give where there is no error -/
theorem errI_len {a b : Str} (he : errI a b = 0) : (ns (val (mag a))).length ≤ 4096 ∧ (ns (val (mag b))).length ≤ 4096 := by
  obtain ⟨h1, h2, h3, h4⟩ := errI_zero.1 he
  exact ⟨ns_le_len (right_mag h1) h3 (Nat.le_refl _), ns_le_len (right_mag h2) h4 (Nat.le_refl _)⟩
-- GEN

set_option maxHeartbeats 1000000 in
theorem wradd_any (a b : List UInt8) (w : World) (ha : a.length ≤ 1000000) (hb : b.length ≤ 1000000) :
    Calls Tryd.prog 15 #[.string (B a), .string (B b)] w fun e w' => e = .returned (.tuple #[.string (B (addIS a b)), .int .i64 (addIE a b)]) ∧ Below w.heap.size w w' := by
  have hma : a.length ≤ maxLen := by unfold maxLen; omega
  have hmb : b.length ≤ maxLen := by unfold maxLen; omega
  by_cases he : errI a b = 0
  · have HR := Lib.hid (show addIS a b = resIS (valI a + valI b) ∧ addIE a b = resIE (valI a + valI b) from ⟨if_pos he, if_pos he⟩)
    obtain ⟨h1, h2, h3, h4⟩ := errI_zero.1 he
    obtain ⟨hla, hlb⟩ := errI_len he
    have HE := Lib.hid he
    have HA := Lib.hid (valI_sg a)
    have HB := Lib.hid (valI_sg b)
    go_enter Tryd.func15, Tryd.ntmps15
    go_wp2_with fail
    refine (wcheck_any a b w hma hmb).mono ?_; rw [HE.out]; rintro e w' ⟨rfl, h⟩
    obtain rfl := h.symm
    go_wp2_with fail
    refine (wparts_any a w ha h1).mono ?_
    rintro e w1 ⟨A1, c1, rfl, hd1, hb1⟩
    go_wp2_with fail
    refine (wparts_any b w1 hb h2).mono ?_
    rintro e w2 ⟨A2, c2, rfl, hd2, hb2⟩
    have hd1' := hd1.below hb2
    have hb12 := hb1.trans (hb2.mono hb1.size)
    clear hd1 he
    have HZ := Lib.hid (show sg (neg? a) (val (mag a)) + sg (neg? b) (val (mag b)) = valI a + valI b from by rw [HA.out, HB.out])
    have hzl : (decI (sg (neg? a) (val (mag a)) + sg (neg? b) (val (mag b)))).length ≤ maxLen := by
      have h5 := sg_add_abs (neg? a) (neg? b) (val (mag a)) (val (mag b))
      have h6 := decI_len (Nat.le_trans (ns_length_mono h5) (ns_add_len hla hlb))
      unfold maxLen; omega
    have HL := Lib.hid hzl
    clear hzl
    generalize val (mag a) = x at *
    generalize val (mag b) = y at *
    go_wp2_with fail
    refine (wsum_any (neg? a) (neg? b) x y A1 A2 c1 c2 w2 hd1' hd2 (by omega) (by omega)).mono ?_
    rintro e w3 ⟨rfl, hb3⟩
    go_wp2_with fail
    refine (wresult_any _ w3 HL.out).mono ?_
    rintro e w' ⟨rfl, h⟩
    obtain rfl := h.symm
    go_wp2_with fail
    go_ret2
    exact ⟨ret_si (by rw [HR.out.1, HZ.out]) (by rw [HR.out.2, HZ.out]), hb12.trans (hb3.mono hb12.size)⟩
  · have HR := Lib.hid (show addIS a b = [] ∧ addIE a b = errI a b from ⟨if_neg he, if_neg he⟩)
    have hne : (errI a b != 0) = true := by simpa using he
    clear he
    go_enter Tryd.func15, Tryd.ntmps15
    go_wp2_with fail
    refine (wcheck_any a b w hma hmb).mono ?_; rintro e w' ⟨rfl, h⟩
    obtain rfl := h.symm
    go_wp2_with fail
    go_ret2
    exact ⟨ret_si HR.out.1.symm HR.out.2.symm, Below.refl _ _⟩

set_option maxHeartbeats 1000000 in
theorem wrsub_any (a b : List UInt8) (w : World) (ha : a.length ≤ 1000000) (hb : b.length ≤ 1000000) :
    Calls Tryd.prog 17 #[.string (B a), .string (B b)] w fun e w' => e = .returned (.tuple #[.string (B (subIS a b)), .int .i64 (subIE a b)]) ∧ Below w.heap.size w w' := by
  have hma : a.length ≤ maxLen := by unfold maxLen; omega
  have hmb : b.length ≤ maxLen := by unfold maxLen; omega
  by_cases he : errI a b = 0
  · have HR := Lib.hid (show subIS a b = resIS (valI a - valI b) ∧ subIE a b = resIE (valI a - valI b) from ⟨if_pos he, if_pos he⟩)
    obtain ⟨h1, h2, h3, h4⟩ := errI_zero.1 he
    obtain ⟨hla, hlb⟩ := errI_len he
    have HE := Lib.hid he
    have HA := Lib.hid (valI_sg a)
    have HB := Lib.hid (valI_sg b)
    go_enter Tryd.func17, Tryd.ntmps17
    go_wp2_with fail
    refine (wcheck_any a b w hma hmb).mono ?_; rw [HE.out]; rintro e w' ⟨rfl, h⟩
    obtain rfl := h.symm
    go_wp2_with fail
    refine (wparts_any a w ha h1).mono ?_
    rintro e w1 ⟨A1, c1, rfl, hd1, hb1⟩
    go_wp2_with fail
    refine (wparts_any b w1 hb h2).mono ?_
    rintro e w2 ⟨A2, c2, rfl, hd2, hb2⟩
    have hd1' := hd1.below hb2
    have hb12 := hb1.trans (hb2.mono hb1.size)
    clear hd1 he
    have HZ := Lib.hid (show sg (neg? a) (val (mag a)) + sg (!neg? b) (val (mag b)) = valI a - valI b from by rw [HA.out, HB.out, sg_not]; omega)
    have hzl : (decI (sg (neg? a) (val (mag a)) + sg (!neg? b) (val (mag b)))).length ≤ maxLen := by
      have h5 := sg_add_abs (neg? a) (!neg? b) (val (mag a)) (val (mag b))
      have h6 := decI_len (Nat.le_trans (ns_length_mono h5) (ns_add_len hla hlb))
      unfold maxLen; omega
    have HL := Lib.hid hzl
    clear hzl
    generalize val (mag a) = x at *
    generalize val (mag b) = y at *
    go_wp2_with fail
    refine (wsum_any (neg? a) (!neg? b) x y A1 A2 c1 c2 w2 hd1' hd2 (by omega) (by omega)).mono ?_
    rintro e w3 ⟨rfl, hb3⟩
    go_wp2_with fail
    refine (wresult_any _ w3 HL.out).mono ?_
    rintro e w' ⟨rfl, h⟩
    obtain rfl := h.symm
    go_wp2_with fail
    go_ret2
    exact ⟨ret_si (by rw [HR.out.1, HZ.out]) (by rw [HR.out.2, HZ.out]), hb12.trans (hb3.mono hb12.size)⟩
  · have HR := Lib.hid (show subIS a b = [] ∧ subIE a b = errI a b from ⟨if_neg he, if_neg he⟩)
    have hne : (errI a b != 0) = true := by simpa using he
    clear he
    go_enter Tryd.func17, Tryd.ntmps17
    go_wp2_with fail
    refine (wcheck_any a b w hma hmb).mono ?_; rintro e w' ⟨rfl, h⟩
    obtain rfl := h.symm
    go_wp2_with fail
    go_ret2
    exact ⟨ret_si HR.out.1.symm HR.out.2.symm, Below.refl _ _⟩

set_option maxHeartbeats 1000000 in
theorem wrmul_any (a b : List UInt8) (w : World) (ha : a.length ≤ 1000000) (hb : b.length ≤ 1000000) :
    Calls Tryd.prog 33 #[.string (B a), .string (B b)] w fun e w' => e = .returned (.tuple #[.string (B (mulIS a b)), .int .i64 (mulIE a b)]) ∧ Below w.heap.size w w' := by
  have hma : a.length ≤ maxLen := by unfold maxLen; omega
  have hmb : b.length ≤ maxLen := by unfold maxLen; omega
  by_cases he : errI a b = 0
  · have HR := Lib.hid (show mulIS a b = resIS (valI a * valI b) ∧ mulIE a b = resIE (valI a * valI b) from ⟨if_pos he, if_pos he⟩)
    obtain ⟨h1, h2, h3, h4⟩ := errI_zero.1 he
    obtain ⟨hla, hlb⟩ := errI_len he
    have HE := Lib.hid he
    have HA := Lib.hid (valI_sg a)
    have HB := Lib.hid (valI_sg b)
    go_enter Tryd.func33, Tryd.ntmps33
    go_wp2_with fail
    refine (wcheck_any a b w hma hmb).mono ?_; rw [HE.out]; rintro e w' ⟨rfl, h⟩
    obtain rfl := h.symm
    go_wp2_with fail
    refine (wparts_any a w ha h1).mono ?_
    rintro e w1 ⟨A1, c1, rfl, hd1, hb1⟩
    go_wp2_with fail
    refine (wparts_any b w1 hb h2).mono ?_
    rintro e w2 ⟨A2, c2, rfl, hd2, hb2⟩
    have hd1' := hd1.below hb2
    have hb12 := hb1.trans (hb2.mono hb1.size)
    clear hd1 he
    have HZ := Lib.hid (show sg (neg? a != neg? b) (val (mag a) * val (mag b)) = valI a * valI b by rw [HA.out, HB.out, mul_sg])
    have hlm := ns_mul_len hla hlb
    have hzl : (decI (sg (neg? a != neg? b) (val (mag a) * val (mag b)))).length ≤ maxLen := by
      have h6 := decI_len (z := sg (neg? a != neg? b) (val (mag a) * val (mag b))) (k := 4096 + 4096) (by rw [sg_abs]; exact hlm)
      unfold maxLen; omega
    have HL := Lib.hid hzl
    clear hzl
    have HT := Lib.hid (fun A c w hd => wtext_num (neg? a != neg? b) (val (mag a) * val (mag b)) A c w hd (by omega))
    have HM := Lib.hid (wtimes_any (val (mag a)) (val (mag b)) A1 A2 c1 c2 w2 hd1' hd2 (by omega) (by omega))
    generalize val (mag a) * val (mag b) = p at *
    go_wp2_with fail
    refine HM.out.mono ?_
    rintro e w3 ⟨A3, c3, rfl, hd3, hb3⟩
    have hb13 := hb12.trans (hb3.mono hb12.size)
    go_wp2_with fail
    refine (HT.out A3 c3 w3 hd3).mono ?_
    rintro e w4 ⟨rfl, hb4⟩
    go_wp2_with fail
    refine (wresult_any _ w4 HL.out).mono ?_
    rintro e w' ⟨rfl, h⟩
    obtain rfl := h.symm
    go_wp2_with fail
    go_ret2
    exact ⟨ret_si (by rw [HR.out.1, HZ.out]) (by rw [HR.out.2, HZ.out]), hb13.trans (hb4.mono hb13.size)⟩
  · have HR := Lib.hid (show mulIS a b = [] ∧ mulIE a b = errI a b from ⟨if_neg he, if_neg he⟩)
    have hne : (errI a b != 0) = true := by simpa using he
    clear he
    go_enter Tryd.func33, Tryd.ntmps33
    go_wp2_with fail
    refine (wcheck_any a b w hma hmb).mono ?_; rintro e w' ⟨rfl, h⟩
    obtain rfl := h.symm
    go_wp2_with fail
    go_ret2
    exact ⟨ret_si HR.out.1.symm HR.out.2.symm, Below.refl _ _⟩

set_option maxHeartbeats 1000000 in
theorem wrneg_any (a : List UInt8) (w : World) (ha : a.length ≤ 1000000) :
    Calls Tryd.prog 19 #[.string (B a)] w fun e w' => e = .returned (.tuple #[.string (B (negIS a)), .int .i64 (errI a a)]) ∧ Below w.heap.size w w' := by
  have hma : a.length ≤ maxLen := by unfold maxLen; omega
  by_cases he : errI a a = 0
  · have HR := Lib.hid (show negIS a = decI (-(valI a)) from if_pos he)
    obtain ⟨h1, h2, h3, h4⟩ := errI_zero.1 he
    obtain ⟨hla, hlb⟩ := errI_len he
    have HE := Lib.hid he
    have HZ := Lib.hid (show sg (!neg? a) (val (mag a)) = -(valI a) by rw [sg_not, valI_sg])
    clear he
    go_enter Tryd.func19, Tryd.ntmps19
    go_wp2_with fail
    refine (wcheck_any a a w hma hma).mono ?_; rw [HE.out]; rintro e w' ⟨rfl, h⟩
    obtain rfl := h.symm
    go_wp2_with fail
    refine (wparts_any a w ha h1).mono ?_
    rintro e w1 ⟨A1, c1, rfl, hd1, hb1⟩
    go_wp2_with fail
    refine (wtext_num _ _ A1 c1 w1 hd1 (by omega)).mono ?_
    rintro e w2 ⟨rfl, hb2⟩
    go_wp2_with fail
    go_ret2
    exact ⟨ret_si (by rw [HR.out, HZ.out]) HE.out.symm, hb1.trans (hb2.mono hb1.size)⟩
  · have HR := Lib.hid (show negIS a = [] from if_neg he)
    have hne : (errI a a != 0) = true := by simpa using he
    clear he
    go_enter Tryd.func19, Tryd.ntmps19
    go_wp2_with fail
    refine (wcheck_any a a w hma hma).mono ?_; rintro e w' ⟨rfl, h⟩
    obtain rfl := h.symm
    go_wp2_with fail
    go_ret2
    exact ⟨ret_si HR.out.symm rfl, Below.refl _ _⟩
set_option maxHeartbeats 1000000 in
theorem wrabs_any (a : List UInt8) (w : World) (ha : a.length ≤ 1000000) :
    Calls Tryd.prog 21 #[.string (B a)] w fun e w' => e = .returned (.tuple #[.string (B (absIS a)), .int .i64 (errI a a)]) ∧ Below w.heap.size w w' := by
  have hma : a.length ≤ maxLen := by unfold maxLen; omega
  by_cases he : errI a a = 0
  · have HR := Lib.hid (show absIS a = decI ((valI a).natAbs : Int) from if_pos he)
    obtain ⟨h1, h2, h3, h4⟩ := errI_zero.1 he
    obtain ⟨hla, hlb⟩ := errI_len he
    have HE := Lib.hid he
    have HZ := Lib.hid (show sg false (val (mag a)) = ((valI a).natAbs : Int) by rw [abs_valI]; rfl)
    clear he
    go_enter Tryd.func21, Tryd.ntmps21
    go_wp2_with fail
    refine (wcheck_any a a w hma hma).mono ?_; rw [HE.out]; rintro e w' ⟨rfl, h⟩
    obtain rfl := h.symm
    go_wp2_with fail
    refine (wparts_any a w ha h1).mono ?_
    rintro e w1 ⟨A1, c1, rfl, hd1, hb1⟩
    go_wp2_with fail
    refine (wtext_num _ _ A1 c1 w1 hd1 (by omega)).mono ?_
    rintro e w2 ⟨rfl, hb2⟩
    go_wp2_with fail
    go_ret2
    exact ⟨ret_si (by rw [HR.out, HZ.out]) HE.out.symm, hb1.trans (hb2.mono hb1.size)⟩
  · have HR := Lib.hid (show absIS a = [] from if_neg he)
    have hne : (errI a a != 0) = true := by simpa using he
    clear he
    go_enter Tryd.func21, Tryd.ntmps21
    go_wp2_with fail
    refine (wcheck_any a a w hma hma).mono ?_; rintro e w' ⟨rfl, h⟩
    obtain rfl := h.symm
    go_wp2_with fail
    go_ret2
    exact ⟨ret_si HR.out.symm rfl, Below.refl _ _⟩
end Go.Proofs.YtkggdkkfdbbglaaDoor

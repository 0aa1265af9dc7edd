/- The walks of the laws NatAdds, NatGcds, NatMuls. -/
import Derived.Test.YtbjjbfefbkamoaaDoorLawDivides
namespace Go.Proofs.YtbjjbfefbkamoaaDoor
open Go.RowKit Num
set_option linter.unusedVariables false
attribute [local go_sem] B_size B_get B_toList B_mk B_extract B_append
attribute [local go_sem high] run_max2

theorem adds_core (a b : List UInt8) (w : World) (ha : a.length ≤ 600) (hb : b.length ≤ 600) (ht : Tab w) :
    Calls Tryd.prog 5 #[.string (B a), .string (B b)] w fun e w' => e = .returned (.bool true) ∧ Below w.heap.size w w' := by
  have n1 := neq_self (addS a b)
  have n2 : (addE a b != addE a b) = false := by simp
  have n3 := neq_self (subS a b)
  have n4 : (subE a b != subE a b) = false := by simp
  by_cases hE : addE a b = 0
  · have he := addE_zero hE
    obtain ⟨h1, h2, h3, h4⟩ := errT_zero.1 he
    obtain ⟨x, rfl⟩ := (right_iff a).1 h1
    obtain ⟨y, rfl⟩ := (right_iff b).1 h2
    have hz : (addE (dec x) (dec y) != 0) = false := by simpa using hE
    have hl := dec_len_add x y
    have hs := addS_dec (p := x) (q := y) (by omega) (by omega)
    have hrs := resS_small (n := x + y) (by omega)
    have hA := Lib.hid (show addS (dec x) (dec y) = dec (x + y) by rw [hs.1, hrs.1])
    have hd := subS_dec (p := x + y) (q := y) (by omega) (by omega) (by omega)
    rw [Nat.add_sub_cancel] at hd
    have hD := Lib.hid hd
    have hr1 := right_dec (x + y)
    clear hE he h1 h2 hs hrs hd
    go_enter Tryd.func5, Tryd.ntmps5
    go_wp2_with fail
    refine (add_any _ _ _ (maxLen_of (by omega)) (maxLen_of (by omega)) ht).mono ?_
    rintro e w1 ⟨rfl, hb1⟩
    go_wp2_with fail
    refine (radd_any _ _ _ (maxLen_of (by omega)) (maxLen_of (by omega))).mono ?_
    rintro e w' ⟨rfl, rfl⟩
    go_wp2_with fail
    refine (sub_any _ _ _ (maxLen_of (by omega)) (maxLen_of (by omega)) (ht.below hb1)).mono ?_
    rintro e w2 ⟨rfl, hb2⟩
    go_wp2_with fail
    refine (rsub_any _ _ _ (maxLen_of (by omega)) (maxLen_of (by omega))).mono ?_
    rintro e w' ⟨rfl, rfl⟩
    go_wp2_with fail
    rw [hA.out]
    refine (sub_any _ _ _ (maxLen_of (by omega)) (maxLen_of (by omega)) ((ht.below hb1).below hb2)).mono ?_
    rintro e w3 ⟨rfl, hb3⟩
    rw [hD.out.1, hD.out.2]
    go_wp2_with fail
    refine (right_any _ _ (maxLen_of (by omega))).mono ?_
    rintro e w' ⟨rfl, rfl⟩
    rw [hr1]
    have h5 := hb1.trans (hb2.mono hb1.size)
    have h6 := h5.trans (hb3.mono h5.size)
    go_wp2_with fail
    refine (awake_any _ (ht.below h6)).mono ?_
    rintro e w4 ⟨rfl, hb4⟩
    go_wp2_with fail
    go_ret
    exact ⟨rfl, h6.trans (hb4.mono h6.size)⟩
  · have hne : (addE a b != 0) = true := by simpa using hE
    clear hE
    go_enter Tryd.func5, Tryd.ntmps5
    go_wp2_with fail
    refine (add_any _ _ _ (maxLen_of (by omega)) (maxLen_of (by omega)) ht).mono ?_
    rintro e w1 ⟨rfl, hb1⟩
    go_wp2_with fail
    refine (radd_any _ _ _ (maxLen_of (by omega)) (maxLen_of (by omega))).mono ?_
    rintro e w' ⟨rfl, rfl⟩
    go_wp2_with fail
    refine (sub_any _ _ _ (maxLen_of (by omega)) (maxLen_of (by omega)) (ht.below hb1)).mono ?_
    rintro e w2 ⟨rfl, hb2⟩
    go_wp2_with fail
    refine (rsub_any _ _ _ (maxLen_of (by omega)) (maxLen_of (by omega))).mono ?_
    rintro e w' ⟨rfl, rfl⟩
    have h5 := hb1.trans (hb2.mono hb1.size)
    go_wp2_with fail
    refine (awake_any _ (ht.below h5)).mono ?_
    rintro e w4 ⟨rfl, hb4⟩
    go_wp2_with fail
    go_ret
    exact ⟨rfl, h5.trans (hb4.mono h5.size)⟩
theorem natAdds_walk (a b : List UInt8) (w : World) (ha : a.length ≤ maxLen) (hb : b.length ≤ maxLen) (ht : Tab w) :
    Calls Tryd.prog 5 #[.string (B a), .string (B b)] w fun e w' => e = .returned (.bool true) ∧ Below w.heap.size w w' := by
  by_cases hl : a.length ≤ 600 ∧ b.length ≤ 600
  · exact adds_core a b w hl.1 hl.2 ht
  · unfold maxLen at ha hb
    by_cases h1 : 600 < a.length
    · clear hl
      go_enter Tryd.func5, Tryd.ntmps5
      go_wp2_with fail
      refine (awake_any _ ht).mono ?_
      rintro e w4 ⟨rfl, hb4⟩
      go_wp2_with fail
      go_ret
      exact ⟨rfl, hb4⟩
    · have h2 : 600 < b.length := by omega
      clear hl
      go_enter Tryd.func5, Tryd.ntmps5
      go_wp2_with fail
      refine (awake_any _ ht).mono ?_
      rintro e w4 ⟨rfl, hb4⟩
      go_wp2_with fail
      go_ret
      exact ⟨rfl, hb4⟩

theorem muls_core (a b c : List UInt8) (w : World) (ha : a.length ≤ 60) (hb : b.length ≤ 60) (hc : c.length ≤ 60) (ht : Tab w) :
    Calls Tryd.prog 7 #[.string (B a), .string (B b), .string (B c)] w fun e w' => e = .returned (.bool true) ∧ Below w.heap.size w w' := by
  have n1 := neq_self (mulS a b)
  have n2 : (mulE a b != mulE a b) = false := by simp
  by_cases hE : mulE a b = 0
  · by_cases hrc : right c = true
    · have he := mulE_zero hE
      obtain ⟨h1, h2, h3, h4⟩ := errT_zero.1 he
      obtain ⟨x, rfl⟩ := (right_iff a).1 h1
      obtain ⟨y, rfl⟩ := (right_iff b).1 h2
      obtain ⟨z, rfl⟩ := (right_iff c).1 hrc
      have hz : (mulE (dec x) (dec y) != 0) = false := by simpa using hE
      have hlxy := dec_len_mul x y
      have hlxz := dec_len_mul x z
      have hlyz := dec_len_add y z
      have hlm := dec_len_mul x (y + z)
      have hla := dec_len_add (x * y) (x * z)
      have q1 := mulS_dec (p := x) (q := y) (by omega) (by omega)
      have r1 := resS_small (n := x * y) (by omega)
      have M1 := Lib.hid (show mulS (dec x) (dec y) = dec (x * y) ∧ mulE (dec x) (dec y) = 0 by rw [q1.1, q1.2, r1.1, r1.2]; exact ⟨rfl, rfl⟩)
      have q2 := mulS_dec (p := y) (q := x) (by omega) (by omega)
      have M2 := Lib.hid (show mulS (dec y) (dec x) = dec (x * y) ∧ mulE (dec y) (dec x) = 0 by rw [q2.1, q2.2, Nat.mul_comm, r1.1, r1.2]; exact ⟨rfl, rfl⟩)
      have q3 := addS_dec (p := y) (q := z) (by omega) (by omega)
      have r3 := resS_small (n := y + z) (by omega)
      have M3 := Lib.hid (show addS (dec y) (dec z) = dec (y + z) by rw [q3.1, r3.1])
      have q4 := mulS_dec (p := x) (q := y + z) (by omega) (by omega)
      have r4 := resS_small (n := x * (y + z)) (by omega)
      have M4 := Lib.hid (show mulS (dec x) (dec (y + z)) = dec (x * (y + z)) ∧ mulE (dec x) (dec (y + z)) = 0 by rw [q4.1, q4.2, r4.1, r4.2]; exact ⟨rfl, rfl⟩)
      have q5 := mulS_dec (p := x) (q := z) (by omega) (by omega)
      have r5 := resS_small (n := x * z) (by omega)
      have M5 := Lib.hid (show mulS (dec x) (dec z) = dec (x * z) by rw [q5.1, r5.1])
      have q6 := addS_dec (p := x * y) (q := x * z) (by omega) (by omega)
      have r6 := resS_small (n := x * y + x * z) (by omega)
      have M6 := Lib.hid (show addS (dec (x * y)) (dec (x * z)) = dec (x * (y + z)) by rw [q6.1, r6.1, Nat.mul_add])
      have e1 := eqb_self (dec (x * y))
      have e2 := eqb_self (dec (x * (y + z)))
      clear hE he h1 h2 q1 q2 q3 q4 q5 q6 r1 r3 r4 r5 r6 hlm hla
      go_enter Tryd.func7, Tryd.ntmps7
      go_wp2_with fail
      refine (mul_any _ _ _ (maxLen_of (by omega)) (maxLen_of (by omega)) ht).mono ?_
      rintro e w1 ⟨rfl, hb1⟩
      go_wp2_with fail
      refine (rmul_any _ _ _ (maxLen_of (by omega)) (maxLen_of (by omega))).mono ?_
      rintro e w' ⟨rfl, rfl⟩
      go_wp2_with fail
      refine (ref_right_any _ _ (maxLen_of (by omega))).mono ?_
      rintro e w' ⟨rfl, rfl⟩
      rw [hrc]
      go_wp2_with fail
      refine (mul_any _ _ _ (maxLen_of (by omega)) (maxLen_of (by omega)) (ht.below hb1)).mono ?_
      rintro e w2 ⟨rfl, hb2⟩
      rw [M2.out.1, M2.out.2]
      go_wp2_with fail
      refine (radd_any _ _ _ (maxLen_of (by omega)) (maxLen_of (by omega))).mono ?_
      rintro e w' ⟨rfl, rfl⟩
      rw [M3.out]
      go_wp2_with fail
      refine (mul_any _ _ _ (maxLen_of (by omega)) (maxLen_of (by omega)) ((ht.below hb1).below hb2)).mono ?_
      rintro e w3 ⟨rfl, hb3⟩
      rw [M4.out.1, M4.out.2]
      go_wp2_with fail
      refine (rmul_any _ _ _ (maxLen_of (by omega)) (maxLen_of (by omega))).mono ?_
      rintro e w' ⟨rfl, rfl⟩
      rw [M5.out]
      go_wp2_with fail
      rw [M1.out.1]
      refine (radd_any _ _ _ (maxLen_of (by omega)) (maxLen_of (by omega))).mono ?_
      rintro e w' ⟨rfl, rfl⟩
      rw [M6.out]
      have h5 := hb1.trans (hb2.mono hb1.size)
      have h6 := h5.trans (hb3.mono h5.size)
      go_wp2_with fail
      refine (awake_any _ (ht.below h6)).mono ?_
      rintro e w4 ⟨rfl, hb4⟩
      go_wp2_with fail
      go_ret
      exact ⟨rfl, h6.trans (hb4.mono h6.size)⟩
    · have hz : (mulE a b != 0) = false := by simpa using hE
      have hrc' : right c = false := by simpa using hrc
      clear hE hrc
      go_enter Tryd.func7, Tryd.ntmps7
      go_wp2_with fail
      refine (mul_any _ _ _ (maxLen_of (by omega)) (maxLen_of (by omega)) ht).mono ?_
      rintro e w1 ⟨rfl, hb1⟩
      go_wp2_with fail
      refine (rmul_any _ _ _ (maxLen_of (by omega)) (maxLen_of (by omega))).mono ?_
      rintro e w' ⟨rfl, rfl⟩
      go_wp2_with fail
      refine (ref_right_any _ _ (maxLen_of (by omega))).mono ?_
      rintro e w' ⟨rfl, rfl⟩
      rw [hrc']
      go_wp2_with fail
      refine (awake_any _ (ht.below hb1)).mono ?_
      rintro e w4 ⟨rfl, hb4⟩
      go_wp2_with fail
      go_ret
      exact ⟨rfl, hb1.trans (hb4.mono hb1.size)⟩
  · have hne : (mulE a b != 0) = true := by simpa using hE
    clear hE
    go_enter Tryd.func7, Tryd.ntmps7
    go_wp2_with fail
    refine (mul_any _ _ _ (maxLen_of (by omega)) (maxLen_of (by omega)) ht).mono ?_
    rintro e w1 ⟨rfl, hb1⟩
    go_wp2_with fail
    refine (rmul_any _ _ _ (maxLen_of (by omega)) (maxLen_of (by omega))).mono ?_
    rintro e w' ⟨rfl, rfl⟩
    go_wp2_with fail
    refine (awake_any _ (ht.below hb1)).mono ?_
    rintro e w4 ⟨rfl, hb4⟩
    go_wp2_with fail
    go_ret
    exact ⟨rfl, hb1.trans (hb4.mono hb1.size)⟩
theorem natMuls_walk (a b c : List UInt8) (w : World) (ha : a.length ≤ maxLen) (hb : b.length ≤ maxLen) (hc : c.length ≤ maxLen) (ht : Tab w) :
    Calls Tryd.prog 7 #[.string (B a), .string (B b), .string (B c)] w fun e w' => e = .returned (.bool true) ∧ Below w.heap.size w w' := by
  by_cases hl : a.length ≤ 60 ∧ b.length ≤ 60 ∧ c.length ≤ 60
  · exact muls_core a b c w hl.1 hl.2.1 hl.2.2 ht
  · unfold maxLen at ha hb hc
    by_cases h1 : 60 < a.length
    · clear hl
      go_enter Tryd.func7, Tryd.ntmps7
      go_wp2_with fail
      refine (awake_any _ ht).mono ?_
      rintro e w4 ⟨rfl, hb4⟩
      go_wp2_with fail
      go_ret
      exact ⟨rfl, hb4⟩
    · by_cases h2 : 60 < b.length
      · clear hl
        go_enter Tryd.func7, Tryd.ntmps7
        go_wp2_with fail
        refine (awake_any _ ht).mono ?_
        rintro e w4 ⟨rfl, hb4⟩
        go_wp2_with fail
        go_ret
        exact ⟨rfl, hb4⟩
      · have h3 : 60 < c.length := by omega
        clear hl
        go_enter Tryd.func7, Tryd.ntmps7
        go_wp2_with fail
        refine (awake_any _ ht).mono ?_
        rintro e w4 ⟨rfl, hb4⟩
        go_wp2_with fail
        go_ret
        exact ⟨rfl, hb4⟩
end Go.Proofs.YtbjjbfefbkamoaaDoor

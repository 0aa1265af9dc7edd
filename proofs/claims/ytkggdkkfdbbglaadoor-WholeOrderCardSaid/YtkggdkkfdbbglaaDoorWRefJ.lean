/- The reference of whole: Of, Int. -/
import Derived.Test.YtkggdkkfdbbglaaDoorWRefI
namespace Go.Proofs.YtkggdkkfdbbglaaDoor
open Go.RowKit Num
set_option linter.unusedVariables false
attribute [local go_sem] B_size B_get B_toList B_mk B_extract B_append
attribute [local go_sem high] run_max2

theorem ret_ii' {a b c d : Int} (h : a = b) (h2 : c = d) : Ending.returned (.tuple #[.int .i64 a, .int .i64 c]) = .returned (.tuple #[.int .i64 b, .int .i64 d]) := by rw [h, h2]
theorem of_step (x : Int) (zs : List Nat) (k N d : Nat) (hz : zs.length = k) (h : N = lw zs + 10 ^ k * x.natAbs) (hd : d = x.natAbs % 10) :
    N = lw (zs ++ [d]) + 10 ^ (k + 1) * (Int.tdiv x 10).natAbs := by
  rw [lw_snoc, hz, tdiv_abs, hd, h, Nat.pow_succ, Nat.mul_assoc, Nat.add_assoc, ← Nat.mul_add]
  congr 2; omega
theorem of_small {k N : Nat} {x : Int} {L : Nat} (h : N = L + 10 ^ k * x.natAbs) (hN : N ≤ 9223372036854775808) (hx : x ≠ 0) : k ≤ 18 := by
  rcases Nat.lt_or_ge 18 k with h1 | h1
  · have h2 : 10 ^ 19 ≤ 10 ^ k := Nat.pow_le_pow_right (by omega) (by omega)
    have h3 : 10 ^ k * 1 ≤ 10 ^ k * x.natAbs := Nat.mul_le_mul_left _ (by omega)
    omega
  · exact h1
theorem sg_neg (z : Int) : sg (decide (z < 0)) z.natAbs = z := by
  by_cases h : z < 0
  · simp [h, sg]; omega
  · simp [h, sg]; omega

set_option maxHeartbeats 1000000 in
theorem wrof_any (z : Int) (w : World) (hz : fits z) :
    Calls Tryd.prog 27 #[.int .i64 z] w fun e w' => e = .returned (.string (B (decI z))) ∧ Below w.heap.size w w' := by
  obtain ⟨hz1, hz2⟩ := hz
  have HS := Lib.hid (sg_neg z)
  have hN : z.natAbs ≤ 9223372036854775808 := by omega
  generalize hng : decide (z < 0) = ng at *
  have HNG := Lib.hid hng
  obtain ⟨N, hNN⟩ : ∃ N, N = z.natAbs := ⟨_, rfl⟩
  rw [← hNN] at hN
  have HN := Lib.hid hNN
  clear hNN
  go_enter Tryd.func27, Tryd.ntmps27
  simp only [B_mk]
  go_wp2_with fail
  go_loopw [0, 3, 5] (fun n v _ wr => ∃ (x : Int) (k : Nat) (zs : List Nat) (A : Option Addr) (c : Nat), n = .int .i64 x ∧ v = .slice A k c ∧ -9223372036854775808 ≤ x ∧ x ≤ 9223372036854775807 ∧ zs.length = k ∧ digl zs ∧ k ≤ 19 ∧ N = lw zs + 10 ^ k * x.natAbs ∧ OwnS wr w.heap.size 3 A k c (nums zs) ∧ Below w.heap.size w wr) (fun n _ _ _ => (intOf n).natAbs)
  case atStart => exact ⟨z, 0, [], none, 0, rfl, rfl, hz1, hz2, rfl, digl_nil, by omega, by rw [HN.out]; simp [lw], OwnS.nil _ _ _, Below.refl _ _⟩
  case round =>
    obtain ⟨x, k, zs, A, c, rfl, rfl, hx1, hx2, hzl, hdz, hk, hv, hown, hbel⟩ := hrel
    by_cases h0 : x = 0
    · have hval : lw zs = N := by rw [hv, h0]; simp
      have hW := Lib.hid (wtext_any ng zs A c wr hdz (by omega) (by rw [hzl]; exact hown.cap.1) hown.cap.2 hown.cells)
      have HV := Lib.hid hval
      have HZL := Lib.hid hzl
      have hx0 : (x != 0) = false := by simp [h0]
      clear hval hv hzl h0
      go_wp2_with fail
      have hw := hW.out
      rw [HZL.out] at hw
      refine hw.mono ?_
      rintro e w1 ⟨rfl, hb1⟩
      go_wp2_with fail
      go_ret
      exact ⟨ret_str (by rw [HV.out, HN.out, HS.out]), hbel.trans (hb1.mono hbel.size)⟩
    · have hx0 : (x != 0) = true := by simp [h0]
      have hk18 := of_small hv hN h0
      have hS := Lib.hid (fun d => of_step x zs k N d hzl hv)
      have TM := Lib.hid (tmod_abs x)
      have TD := Lib.hid (tdiv_abs x)
      have HZL := Lib.hid hzl
      have H0 := Lib.hid h0
      have hq : Int.tdiv x 10 ≤ 9223372036854775807 ∧ -9223372036854775808 ≤ Int.tdiv x 10 := by have := TD.out; omega
      obtain ⟨hq1, hq2⟩ := hq
      have hm1 : -9 ≤ Int.tmod x 10 := by have := TM.out; omega
      have hm2 : Int.tmod x 10 ≤ 9 := by have := TM.out; omega
      clear hv hzl h0
      by_cases hneg : Int.tmod x 10 < 0
      · have HD := Lib.hid (show ((x.natAbs % 10 : Nat) : Int) = -Int.tmod x 10 by have := TM.out; omega)
        go_wp2_with (at_builtin; refine wp_app1 el_ints rfl _ _ rfl w.heap.size _ _ _ _ _ _ rfl hown rfl rfl (by unfold maxLen; omega) (by omega) hbel.size ?_; intro A3 c3 w3 hown3 hb3)
        go_roundw
        case rel =>
          refine ⟨Int.tdiv x 10, k + 1, zs ++ [x.natAbs % 10], A3, c3, rfl, rfl, hq2, hq1, by simp [HZL.out], digl_snoc hdz (by omega), by omega, hS.out _ rfl, ?_, hbel.trans hb3⟩
          rw [nums_snoc, HD.out]; exact hown3
        case measure =>
          have h1 := TD.out
          have h2 := H0.out
          show (Int.tdiv x 10).natAbs < x.natAbs
          omega
      · have HD := Lib.hid (show ((x.natAbs % 10 : Nat) : Int) = Int.tmod x 10 by have := TM.out; omega)
        go_wp2_with (at_builtin; refine wp_app1 el_ints rfl _ _ rfl w.heap.size _ _ _ _ _ _ rfl hown rfl rfl (by unfold maxLen; omega) (by omega) hbel.size ?_; intro A3 c3 w3 hown3 hb3)
        go_roundw
        case rel =>
          refine ⟨Int.tdiv x 10, k + 1, zs ++ [x.natAbs % 10], A3, c3, rfl, rfl, hq2, hq1, by simp [HZL.out], digl_snoc hdz (by omega), by omega, hS.out _ rfl, ?_, hbel.trans hb3⟩
          rw [nums_snoc, HD.out]; exact hown3
        case measure =>
          have h1 := TD.out
          have h2 := H0.out
          show (Int.tdiv x 10).natAbs < x.natAbs
          omega

theorem int_long {s : Str} (h : rightI s = true) (hl : 19 < (mag s).length) : ¬ fits (valI s) := by
  have hr := right_mag h
  have h1 : 10 ^ 19 ≤ val (mag s) := by
    rcases Nat.lt_or_ge (val (mag s)) (10 ^ 19) with h2 | h2
    · have := (length_dec_le (n := val (mag s)) (k := 19) (by omega)).2 h2
      rw [dec_val hr] at this; omega
    · exact h2
  intro hf
  obtain ⟨h2, h3⟩ := hf
  have h4 := abs_valI s
  omega
theorem int_step {xs : List Nat} {j : Nat} (hj : j < xs.length) : lw (xs.drop j) = atN xs j + 10 * lw (xs.drop (j + 1)) := lw_drop xs j hj
theorem lw_drop_le (xs : List Nat) (j : Nat) : lw (xs.drop j) ≤ lw xs := by
  have := lw_append (xs.take j) (xs.drop j)
  rw [List.take_append_drop] at this
  rcases Nat.eq_zero_or_pos (lw (xs.drop j)) with h | h
  · omega
  · have h1 := Nat.pow_pos (n := (xs.take j).length) (show 0 < 10 by omega)
    have h2 : 1 * lw (xs.drop j) ≤ 10 ^ (xs.take j).length * lw (xs.drop j) := Nat.mul_le_mul_right _ h1
    omega

set_option maxHeartbeats 2000000 in
theorem wrint_any (a : List UInt8) (w : World) (ha : a.length ≤ 1000000) :
    Calls Tryd.prog 23 #[.string (B a)] w fun e w' => e = .returned (.tuple #[.int .i64 (numV a), .int .i64 (numE a)]) ∧ Below w.heap.size w w' := by
  have hma : a.length ≤ maxLen := by unfold maxLen; omega
  cases h1 : rightI a
  · have HR := Lib.hid (num_bad h1)
    go_enter Tryd.func23, Tryd.ntmps23
    go_wp2_with fail
    refine (wright_ref_any _ _ hma).mono ?_; rintro e w' ⟨rfl, h⟩; obtain rfl := h.symm
    go_wp2_with fail
    go_ret2
    exact ⟨ret_ii' HR.out.2.symm HR.out.1.symm, Below.refl _ _⟩
  · have hml := mag_length a
    by_cases h19 : 19 < (mag a).length
    · have HR := Lib.hid (num_big h1 (int_long h1 h19))
      have h19' : (19 : Int) < ((mag a).length : Int) := by omega
      go_enter Tryd.func23, Tryd.ntmps23
      go_wp2_with fail
      refine (wright_ref_any _ _ hma).mono ?_; rintro e w' ⟨rfl, h⟩; obtain rfl := h.symm
      go_wp2_with fail
      refine (wdigits_any _ _ hma).mono ?_; rintro e w' ⟨rfl, h⟩; obtain rfl := h.symm
      go_wp2_with fail
      go_ret2
      exact ⟨ret_ii' HR.out.2.symm HR.out.1.symm, Below.refl _ _⟩
    · have h19' : ¬ (19 : Int) < ((mag a).length : Int) := by omega
      have hln : (ns (val (mag a))).length ≤ 19 := ns_le_len (right_mag h1) (by omega) (Nat.le_refl _)
      have HVAL := Lib.hid (valI_sg a)
      have HBIG := Lib.hid (fun h => num_big (s := a) h1 h)
      have HOK := Lib.hid (fun h => num_good (s := a) h1 h)
      go_enter Tryd.func23, Tryd.ntmps23
      go_wp2_with fail
      refine (wright_ref_any _ _ hma).mono ?_; rintro e w' ⟨rfl, h⟩; obtain rfl := h.symm
      go_wp2_with fail
      refine (wdigits_any _ _ hma).mono ?_; rintro e w' ⟨rfl, h⟩; obtain rfl := h.symm
      go_wp2_with fail
      refine (wparts_any a w ha h1).mono ?_
      rintro e w1 ⟨A1, c1, rfl, ⟨hcells, hle, hcap⟩, hb1⟩
      generalize val (mag a) = v at *
      have hx := digl_ns v
      have HX := Lib.hid (lw_ns v)
      generalize ns v = xs at *
      generalize neg? a = g at *
      clear hml h19 h19'
      go_wp2_with fail
      go_loop [6, 7] (fun n i => ∃ (k : Nat) (x : Int), k ≤ xs.length ∧ i = .int .i64 ((k : Int) - 1) ∧ n = .int .i64 x ∧ x = -(lw (xs.drop k) : Int) ∧ -9223372036854775808 ≤ x ∧ x ≤ 0) (fun _ i => (intOf i + 1).toNat)
      case atStart => exact ⟨xs.length, 0, Nat.le_refl _, rfl, rfl, by rw [List.drop_of_length_le (Nat.le_refl _)]; rfl, by omega, by omega⟩
      case round =>
        obtain ⟨k, x, hk, rfl, rfl, hxv, hx1, hx2⟩ := hrel
        have HXV := Lib.hid hxv
        clear hxv
        by_cases hk0 : k = 0
        · subst hk0
          have hxe : x = -(v : Int) := by have := HXV.out; rw [List.drop_zero, HX.out] at this; exact this
          have HXE := Lib.hid hxe
          clear hxe
          cases g
          · by_cases hmin : x = -9223372036854775808
            · have HR := Lib.hid (HBIG.out (by
                rw [HVAL.out, sg_false]; unfold fits; have := HXE.out; omega))
              have hmin' : (x == -9223372036854775808) = true := by simp [hmin]
              clear hmin
              go_wp2_with fail
              go_ret2
              exact ⟨ret_ii' HR.out.2.symm HR.out.1.symm, hb1⟩
            · have HR := Lib.hid (HOK.out (by
                rw [HVAL.out, sg_false]; unfold fits; have := HXE.out; omega))
              have hmin' : (x == -9223372036854775808) = false := by simp [hmin]
              have hxm : -9223372036854775807 ≤ x := by omega
              clear hmin
              go_wp2_with fail
              go_ret2
              exact ⟨ret_ii' (by rw [HR.out.2, HVAL.out, sg_false]; have := HXE.out; omega) HR.out.1.symm, hb1⟩
          · have HR := Lib.hid (HOK.out (by
              rw [HVAL.out, sg_true]; unfold fits; have := HXE.out; omega))
            go_wp2_with fail
            go_ret2
            exact ⟨ret_ii' (by rw [HR.out.2, HVAL.out, sg_true]; have := HXE.out; omega) HR.out.1.symm, hb1⟩
        · obtain ⟨j, rfl⟩ : ∃ j, k = j + 1 := ⟨k - 1, by omega⟩
          rw [show ((j + 1 : Nat) : Int) - 1 = (j : Int) from by omega]
          obtain ⟨b, off, rfl, hb, hcell⟩ := hcells (by rw [nums_length]; omega)
          have hcj := Cells.num hcell j (by omega)
          have hdj := atD_lt hx j
          have HS := Lib.hid (int_step (xs := xs) (j := j) (by omega))
          have HT := Lib.hid (tdiv_test x (atN xs j) (by omega) (by omega))
          have HLE := Lib.hid (lw_drop_le xs j)
          clear hk0 hcell
          by_cases ht : 10 * x - (atN xs j : Int) < -9223372036854775808
          · have hq := HT.out.2 ht
            have HR := Lib.hid (HBIG.out (by
              have h2 := HS.out
              have h3 := HXV.out
              have h4 := HLE.out
              have h5 := HX.out
              rw [HVAL.out]; unfold fits sg
              split <;> omega))
            clear ht
            go_wp2_with fail
            go_ret2
            exact ⟨ret_ii' HR.out.2.symm HR.out.1.symm, hb1⟩
          · have hq : ¬ x < Int.tdiv (-9223372036854775808 + (atN xs j : Int)) 10 := fun h => ht (HT.out.1 h)
            have ht' : -9223372036854775808 ≤ 10 * x - (atN xs j : Int) := by omega
            have hx10 : -9223372036854775808 ≤ 10 * x := by omega
            clear ht
            go_wp2_with fail
            go_round
            case rel =>
              refine ⟨j, 10 * x - (atN xs j : Int), by omega, rfl, by go_num, ?_, ht', by omega⟩
              have h2 := HS.out
              have h3 := HXV.out
              omega
            case measure => simp [intOf]
end Go.Proofs.YtkggdkkfdbbglaaDoor

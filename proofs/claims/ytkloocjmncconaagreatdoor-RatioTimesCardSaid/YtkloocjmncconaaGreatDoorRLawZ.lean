/- The walks of the laws RatioRights, RatioReckons, RatioMakes, RatioTimes. (Printed by wip/rlawz.py.) -/
import Derived.Test.YtkloocjmncconaaGreatDoorRLaw
import Derived.Test.YtkloocjmncconaaGreatDoorRTimes
namespace Go.Proofs.YtkloocjmncconaaGreatDoor
open Go.RowKit Num
set_option linter.unusedVariables false
attribute [local go_sem] B_size B_get B_toList B_mk B_extract B_append
attribute [local go_sem high] run_max2

theorem make_right {a b : Str} (h : makeE a b = 0) : rightQ (makeS a b) = true ∧ (makeS a b).length ≤ 8194 := by
  have hS : makeS a b = quoS (valI a) (valI b) := by unfold makeS; rw [if_pos h]
  unfold makeE at h
  split at h
  · rename_i hr
    split at h
    · rename_i hl
      split at h
      · exact absurd h (by decide)
      · rename_i h0
        obtain ⟨x, q, hq, e, _, d1, d2⟩ := quoS_neg (x := valI a) (y := valI b) h0
        have hda := decI_valI hr.1
        have hdb := decI_valI hr.2
        have e1 : dl (valI a) = (mag a).length := congrArg List.length ((mag_decI (valI a)).symm.trans (congrArg mag hda))
        have e2 : dl (valI b) = (mag b).length := congrArg List.length ((mag_decI (valI b)).symm.trans (congrArg mag hdb))
        have hf : Fr 4096 x q := ⟨hq, by rw [d1, e1]; exact hl.1, by rw [d2, e2]; exact hl.2⟩
        rw [hS, e]
        exact ⟨hf.right (Nat.le_refl _), by have := fr_len2 hf; omega⟩
    · exact absurd h (by decide)
  · exact absurd h (by decide)
theorem short_any (a b : List UInt8) (w : World) (ha : a.length ≤ maxLen) (hb : b.length ≤ maxLen) :
    Calls Tryz.prog 13 #[.string (B a), .string (B b)] w fun e w' => e = .returned (.bool (decide (a.length ≤ 300) && decide (b.length ≤ 300))) ∧ w' = w := by
  unfold maxLen at ha hb
  by_cases h1 : a.length ≤ 300
  · have h1' : (a.length : Int) ≤ 300 := by omega
    by_cases h2 : b.length ≤ 300
    · have h2' : (b.length : Int) ≤ 300 := by omega
      rw [show (decide (a.length ≤ 300) && decide (b.length ≤ 300)) = true by simp [h1, h2]]
      go_enter Tryz.func13, Tryz.ntmps13
      go_wp2_with fail
      go_ret
      exact ⟨rfl, rfl⟩
    · have h2' : ¬ (b.length : Int) ≤ 300 := by omega
      rw [show (decide (a.length ≤ 300) && decide (b.length ≤ 300)) = false by simp [h1, h2]]
      go_enter Tryz.func13, Tryz.ntmps13
      go_wp2_with fail
      go_ret
      exact ⟨rfl, rfl⟩
  · have h1' : ¬ (a.length : Int) ≤ 300 := by omega
    rw [show (decide (a.length ≤ 300) && decide (b.length ≤ 300)) = false by simp [h1]]
    go_enter Tryz.func13, Tryz.ntmps13
    go_wp2_with fail
    go_ret
    exact ⟨rfl, rfl⟩

set_option maxHeartbeats 2000000 in
set_option maxRecDepth 100000 in
theorem ratioRights_walk (a b : List UInt8) (w : World) (hla : a.length ≤ maxLen) (hlb : b.length ≤ maxLen) (he : Env w) :
    Calls Tryz.prog 4 #[.string (B a), .string (B b)] w fun e w' => e = .returned (.bool true) ∧ Below w.heap.size w w' := by
  have HA := Lib.hid (fun w he => awake_any w he)
  have HSH := Lib.hid (fun w => short_any a b w hla hlb)
  by_cases hs : a.length ≤ 300 ∧ b.length ≤ 300
  case neg =>
    rw [show (decide (a.length ≤ 300) && decide (b.length ≤ 300)) = false by simpa using hs] at HSH
    clear hs
    go_enter Tryz.func4, Tryz.ntmps4
    go_wp2_with fail
    refine (HSH.out w).mono ?_; rintro e w' ⟨rfl, h⟩; obtain rfl := h.symm
    go_wp2_with fail
    refine (HA.out w he).mono ?_
    rintro e w1 ⟨rfl, h1⟩
    go_wp2_with fail
    go_ret
    exact ⟨rfl, h1⟩
  rw [show (decide (a.length ≤ 300) && decide (b.length ≤ 300)) = true by simpa using hs] at HSH
  have la := hs.1
  have lb := hs.2
  clear hs
  have P1 := Lib.hid (fun (w : World) (he : Env w) => qparts_any a w (by omega) he)
  have P2 := Lib.hid (fun w => rrparts_any a w (by omega))
  have R1 := Lib.hid (fun (w : World) (he : Env w) => rq_any a w (by omega) he)
  have R2 := Lib.hid (fun w => rrq_any a w (by omega))
  have F1 := Lib.hid (fun (w : World) (he : Env w) => qfloor_any a w (by omega) he)
  have F2 := Lib.hid (fun w => rqfloor_any a w (by omega))
  have C1 := Lib.hid (fun (w : World) (he : Env w) => qceil_any a w (by omega) he)
  have C2 := Lib.hid (fun w => rqceil_any a w (by omega))
  have M1 := Lib.hid (fun (w : World) (he : Env w) => qcmp_any a b w (by omega) (by omega) he)
  have M2 := Lib.hid (fun w => rqcmp_any a b w (by omega) (by omega))
  have S1 := Lib.hid (fun (w : World) (he : Env w) => qsign_any a w (by omega) he)
  have S2 := Lib.hid (fun w => rqsign_any a w (by omega))
  generalize prtN a = x1 at *
  have q1 : (x1 == x1) = true := by simp
  generalize prtD a = x2 at *
  have q2 : (x2 == x2) = true := by simp
  generalize rightE a = x3 at *
  have q3 : (x3 == x3) = true := by simp
  generalize rightQ a = x4 at *
  generalize floorQ a = x5 at *
  have q5 : (x5 == x5) = true := by simp
  generalize ceilQ a = x6 at *
  have q6 : (x6 == x6) = true := by simp
  generalize cmpQ a b = x7 at *
  have q7 : (x7 == x7) = true := by simp
  generalize signQ a = x8 at *
  have q8 : (x8 == x8) = true := by simp
  have q4 : (x4 != x4) = false := by simp
  have q9 : (!(x4 == x4)) = false := by simp
  go_enter Tryz.func4, Tryz.ntmps4
  go_wp2_with fail
  refine (HSH.out w).mono ?_; rintro e w' ⟨rfl, h⟩; obtain rfl := h.symm
  go_wp2_with fail
  refine (P1.out w he).mono ?_
  rintro e w1 ⟨rfl, h1⟩
  go_wp2_with fail
  refine (P2.out w1).mono ?_
  rintro e w2 ⟨rfl, hb⟩
  have h2 := h1.trans (hb.mono h1.size)
  clear hb
  go_wp2_with fail
  refine (R1.out w2 (he.below h2)).mono ?_
  rintro e w3 ⟨rfl, hb⟩
  have h3 := h2.trans (hb.mono h2.size)
  clear hb
  go_wp2_with fail
  refine (R2.out w3).mono ?_
  rintro e w4 ⟨rfl, hb⟩
  have h4 := h3.trans (hb.mono h3.size)
  clear hb
  go_wp2_with fail
  refine (F1.out w4 (he.below h4)).mono ?_
  rintro e w5 ⟨rfl, hb⟩
  have h5 := h4.trans (hb.mono h4.size)
  clear hb
  go_wp2_with fail
  refine (F2.out w5).mono ?_
  rintro e w6 ⟨rfl, hb⟩
  have h6 := h5.trans (hb.mono h5.size)
  clear hb
  go_wp2_with fail
  refine (C1.out w6 (he.below h6)).mono ?_
  rintro e w7 ⟨rfl, hb⟩
  have h7 := h6.trans (hb.mono h6.size)
  clear hb
  go_wp2_with fail
  refine (C2.out w7).mono ?_
  rintro e w8 ⟨rfl, hb⟩
  have h8 := h7.trans (hb.mono h7.size)
  clear hb
  go_wp2_with fail
  refine (M1.out w8 (he.below h8)).mono ?_
  rintro e w9 ⟨rfl, hb⟩
  have h9 := h8.trans (hb.mono h8.size)
  clear hb
  go_wp2_with fail
  refine (M2.out w9).mono ?_
  rintro e w10 ⟨rfl, hb⟩
  have h10 := h9.trans (hb.mono h9.size)
  clear hb
  go_wp2_with fail
  refine (S1.out w10 (he.below h10)).mono ?_
  rintro e w11 ⟨rfl, hb⟩
  have h11 := h10.trans (hb.mono h10.size)
  clear hb
  go_wp2_with fail
  refine (S2.out w11).mono ?_
  rintro e w12 ⟨rfl, hb⟩
  have h12 := h11.trans (hb.mono h11.size)
  clear hb
  go_wp2_with fail
  refine (HA.out w12 (he.below h12)).mono ?_
  rintro e w13 ⟨rfl, hb⟩
  have h13 := h12.trans (hb.mono h12.size)
  clear hb
  go_wp2_with fail
  go_ret
  exact ⟨rfl, h13⟩
set_option maxHeartbeats 2000000 in
set_option maxRecDepth 100000 in
theorem ratioReckons_walk (a b : List UInt8) (w : World) (hla : a.length ≤ maxLen) (hlb : b.length ≤ maxLen) (he : Env w) :
    Calls Tryz.prog 5 #[.string (B a), .string (B b)] w fun e w' => e = .returned (.bool true) ∧ Below w.heap.size w w' := by
  have HA := Lib.hid (fun w he => awake_any w he)
  have HSH := Lib.hid (fun w => short_any a b w hla hlb)
  by_cases hs : a.length ≤ 300 ∧ b.length ≤ 300
  case neg =>
    rw [show (decide (a.length ≤ 300) && decide (b.length ≤ 300)) = false by simpa using hs] at HSH
    clear hs
    go_enter Tryz.func5, Tryz.ntmps5
    go_wp2_with fail
    refine (HSH.out w).mono ?_; rintro e w' ⟨rfl, h⟩; obtain rfl := h.symm
    go_wp2_with fail
    refine (HA.out w he).mono ?_
    rintro e w1 ⟨rfl, h1⟩
    go_wp2_with fail
    go_ret
    exact ⟨rfl, h1⟩
  rw [show (decide (a.length ≤ 300) && decide (b.length ≤ 300)) = true by simpa using hs] at HSH
  have la := hs.1
  have lb := hs.2
  clear hs
  have P0 := Lib.hid (fun (w : World) (he : Env w) => qadd_any a b w (by omega) (by omega) he)
  have R0 := Lib.hid (fun w => rqadd_any a b w (by omega) (by omega))
  have P1 := Lib.hid (fun (w : World) (he : Env w) => qsub_any a b w (by omega) (by omega) he)
  have R1 := Lib.hid (fun w => rqsub_any a b w (by omega) (by omega))
  have P2 := Lib.hid (fun (w : World) (he : Env w) => qmul_any a b w (by omega) (by omega) he)
  have R2 := Lib.hid (fun w => rqmul_any a b w (by omega) (by omega))
  have P3 := Lib.hid (fun (w : World) (he : Env w) => qdiv_any a b w (by omega) (by omega) he)
  have R3 := Lib.hid (fun w => rqdiv_any a b w (by omega) (by omega))
  generalize addQS a b = s0 at *
  generalize addQE a b = e0 at *
  have q0 : (s0 == s0) = true := by simp
  have r0 : (e0 == e0) = true := by simp
  generalize subQS a b = s1 at *
  generalize subQE a b = e1 at *
  have q1 : (s1 == s1) = true := by simp
  have r1 : (e1 == e1) = true := by simp
  generalize mulQS a b = s2 at *
  generalize mulQE a b = e2 at *
  have q2 : (s2 == s2) = true := by simp
  have r2 : (e2 == e2) = true := by simp
  generalize quoQS a b = s3 at *
  generalize quoQE a b = e3 at *
  have q3 : (s3 == s3) = true := by simp
  have r3 : (e3 == e3) = true := by simp
  go_enter Tryz.func5, Tryz.ntmps5
  go_wp2_with fail
  refine (HSH.out w).mono ?_; rintro e w' ⟨rfl, h⟩; obtain rfl := h.symm
  go_wp2_with fail
  refine (P0.out w he).mono ?_
  rintro e w1 ⟨rfl, h1⟩
  go_wp2_with fail
  refine (R0.out w1).mono ?_
  rintro e w2 ⟨rfl, hb⟩
  have h2 := h1.trans (hb.mono h1.size)
  clear hb
  go_wp2_with fail
  refine (P1.out w2 (he.below h2)).mono ?_
  rintro e w3 ⟨rfl, hb⟩
  have h3 := h2.trans (hb.mono h2.size)
  clear hb
  go_wp2_with fail
  refine (R1.out w3).mono ?_
  rintro e w4 ⟨rfl, hb⟩
  have h4 := h3.trans (hb.mono h3.size)
  clear hb
  go_wp2_with fail
  refine (P2.out w4 (he.below h4)).mono ?_
  rintro e w5 ⟨rfl, hb⟩
  have h5 := h4.trans (hb.mono h4.size)
  clear hb
  go_wp2_with fail
  refine (R2.out w5).mono ?_
  rintro e w6 ⟨rfl, hb⟩
  have h6 := h5.trans (hb.mono h5.size)
  clear hb
  go_wp2_with fail
  refine (P3.out w6 (he.below h6)).mono ?_
  rintro e w7 ⟨rfl, hb⟩
  have h7 := h6.trans (hb.mono h6.size)
  clear hb
  go_wp2_with fail
  refine (R3.out w7).mono ?_
  rintro e w8 ⟨rfl, hb⟩
  have h8 := h7.trans (hb.mono h7.size)
  clear hb
  go_wp2_with fail
  refine (HA.out w8 (he.below h8)).mono ?_
  rintro e w9 ⟨rfl, hb⟩
  have h9 := h8.trans (hb.mono h8.size)
  clear hb
  go_wp2_with fail
  go_ret
  exact ⟨rfl, h9⟩
set_option maxHeartbeats 2000000 in
set_option maxRecDepth 100000 in
theorem ratioMakes_walk (a b : List UInt8) (n : Int) (w : World) (hla : a.length ≤ maxLen) (hlb : b.length ≤ maxLen) (wn : (Lit.int .i64 n).wf = true) (he : Env w) :
    Calls Tryz.prog 3 #[.string (B a), .string (B b), .int .i64 n] w fun e w' => e = .returned (.bool true) ∧ Below w.heap.size w w' := by
  have HA := Lib.hid (fun w he => awake_any w he)
  by_cases la : 300 < a.length
  · have la2 : (300 : Int) < (a.length : Int) := by omega
    go_enter Tryz.func3, Tryz.ntmps3
    go_wp2_with fail
    refine (HA.out w he).mono ?_
    rintro e w1 ⟨rfl, h1⟩
    go_wp2_with fail
    go_ret
    exact ⟨rfl, h1⟩
  · have la2 : ¬ (300 : Int) < (a.length : Int) := by omega
    by_cases lb : 300 < b.length
    · have lb2 : (300 : Int) < (b.length : Int) := by omega
      go_enter Tryz.func3, Tryz.ntmps3
      go_wp2_with fail
      refine (HA.out w he).mono ?_
      rintro e w1 ⟨rfl, h1⟩
      go_wp2_with fail
      go_ret
      exact ⟨rfl, h1⟩
    · have lb2 : ¬ (300 : Int) < (b.length : Int) := by omega
      have hfn : fits n := by have h : IntKind.i64.min ≤ n ∧ n ≤ IntKind.i64.max := by simpa [Lit.wf] using wn
                              exact h
      have P1 := Lib.hid (fun (w : World) (he : Env w) => qmake_any a b w (by omega) (by omega) he.1)
      have P2 := Lib.hid (fun w => rqmake_any a b w (by omega) (by omega))
      have O1 := Lib.hid (fun (w : World) (he : Env w) => qof_any n w hfn he.1)
      have O2 := Lib.hid (fun w => rqof_any n w hfn)
      have q2 : (decI n == decI n) = true := by simp
      generalize decI n = d at *
      by_cases h0 : makeE a b = 0
      · have hr := make_right h0
        rw [h0] at P1 P2
        have RR := Lib.hid (fun (w : World) (he : Env w) => rq_any (makeS a b) w (by omega) he)
        rw [hr.1] at RR
        generalize makeS a b = s at *
        have q1 : (s == s) = true := by simp
        go_enter Tryz.func3, Tryz.ntmps3
        go_wp2_with fail
        refine (P1.out w he).mono ?_
        rintro e w1 ⟨rfl, h1⟩
        go_wp2_with fail
        refine (P2.out w1).mono ?_
        rintro e w2 ⟨rfl, hb⟩
        have h2 := h1.trans (hb.mono h1.size)
        clear hb
        go_wp2_with fail
        refine (O1.out w2 (he.below h2)).mono ?_
        rintro e w3 ⟨rfl, hb⟩
        have h3 := h2.trans (hb.mono h2.size)
        clear hb
        go_wp2_with fail
        refine (O2.out w3).mono ?_
        rintro e w4 ⟨rfl, hb⟩
        have h4 := h3.trans (hb.mono h3.size)
        clear hb
        go_wp2_with fail
        refine (RR.out w4 (he.below h4)).mono ?_
        rintro e w5 ⟨rfl, hb⟩
        have h5 := h4.trans (hb.mono h4.size)
        clear hb
        go_wp2_with fail
        refine (HA.out w5 (he.below h5)).mono ?_
        rintro e w6 ⟨rfl, hb⟩
        have h6 := h5.trans (hb.mono h5.size)
        clear hb
        go_wp2_with fail
        go_ret
        exact ⟨rfl, h6⟩
      · have h0' : (makeE a b == 0) = false := by simpa using h0
        have h0'' : (makeE a b != 0) = true := by simpa using h0
        generalize makeE a b = k at *
        have q3 : (k == k) = true := by simp
        clear h0
        generalize makeS a b = s at *
        have q1 : (s == s) = true := by simp
        go_enter Tryz.func3, Tryz.ntmps3
        go_wp2_with fail
        refine (P1.out w he).mono ?_
        rintro e w1 ⟨rfl, h1⟩
        go_wp2_with fail
        refine (P2.out w1).mono ?_
        rintro e w2 ⟨rfl, hb⟩
        have h2 := h1.trans (hb.mono h1.size)
        clear hb
        go_wp2_with fail
        refine (O1.out w2 (he.below h2)).mono ?_
        rintro e w3 ⟨rfl, hb⟩
        have h3 := h2.trans (hb.mono h2.size)
        clear hb
        go_wp2_with fail
        refine (O2.out w3).mono ?_
        rintro e w4 ⟨rfl, hb⟩
        have h4 := h3.trans (hb.mono h3.size)
        clear hb
        go_wp2_with fail
        refine (HA.out w4 (he.below h4)).mono ?_
        rintro e w5 ⟨rfl, hb⟩
        have h5 := h4.trans (hb.mono h4.size)
        clear hb
        go_wp2_with fail
        go_ret
        exact ⟨rfl, h5⟩
set_option maxHeartbeats 2000000 in
set_option maxRecDepth 100000 in
theorem ratioTimes_walk (ns : List Int) (N : Option Addr) (cn : Nat) (xs : List Str) (A : Option Addr) (ca : Nat) (w : World) (hN : Cells w N (ints ns)) (hn : ns.length ≤ cn) (hcn : cn ≤ maxLen) (hfit : ∀ n ∈ ns, fits n)
    (hA : Cells w A (strs xs)) (ha : xs.length ≤ ca) (hca : ca ≤ maxLen) (hlen : ∀ x ∈ xs, x.length ≤ maxLen) (he : Env w) :
    Calls Tryz.prog 6 #[.slice N ns.length cn, .slice A xs.length ca] w fun e w' => e = .returned (.bool true) ∧ Below w.heap.size w w' := by
  have HA := Lib.hid (fun w he => awake_any w he)
  have HX := Lib.hid hA
  have HN := Lib.hid hN
  have HF := Lib.hid hfit
  have HLN := Lib.hid hlen
  clear hA hN hfit hlen
  by_cases h1 : 12 < ns.length
  · have h1' : (12 : Int) < (ns.length : Int) := by omega
    go_enter Tryz.func6, Tryz.ntmps6
    go_wp2_with fail
    refine (HA.out w he).mono ?_
    rintro e w1 ⟨rfl, hb1⟩
    go_wp2_with fail
    go_ret
    exact ⟨rfl, hb1⟩
  have h1' : ¬ (12 : Int) < (ns.length : Int) := by omega
  by_cases h2 : 12 < xs.length
  · have h2' : (12 : Int) < (xs.length : Int) := by omega
    go_enter Tryz.func6, Tryz.ntmps6
    go_wp2_with fail
    refine (HA.out w he).mono ?_
    rintro e w1 ⟨rfl, hb1⟩
    go_wp2_with fail
    go_ret
    exact ⟨rfl, hb1⟩
  have h2' : ¬ (12 : Int) < (xs.length : Int) := by omega
  go_enter Tryz.func6, Tryz.ntmps6
  go_wp2_with fail
  go_loopw [4, 5] (fun _ i wr => ∃ k : Nat, k ≤ xs.length ∧ i = .int .i64 k ∧ (∀ x ∈ xs.take k, x.length ≤ 100) ∧ wr = w) (fun _ i _ => xs.length - (intOf i).toNat)
  case atStart => exact ⟨0, Nat.zero_le _, rfl, by simp, rfl⟩
  case round =>
    obtain ⟨k, hk, rfl, hall, rfl⟩ := hrel
    have HALL := Lib.hid hall
    clear hall
    by_cases hlt : k < xs.length
    · obtain ⟨bA, oA, rfl, hbA, hcA⟩ := HX.out.at (by rw [strs_length]; omega)
      have hld : wr.cell? ⟨bA, oA + k, none⟩ = some (.string (B xs[k])) := by
        rw [hcA k (by rw [strs_length]; exact hlt)]; simp [strs]
      clear hcA
      have hxl := HLN.out xs[k] (List.getElem_mem hlt)
      unfold maxLen at hxl
      have HST := Lib.hid (show xs[k].length ≤ 100 → ∀ x ∈ xs.take (k + 1), x.length ≤ 100 by
        intro h x hx
        rw [List.take_succ_eq_append_getElem hlt, List.mem_append] at hx
        rcases hx with hx | hx
        · exact HALL.out x hx
        · rw [List.mem_singleton] at hx; rw [hx]; exact h)
      generalize xs[k] = x at *
      by_cases h3 : 100 < x.length
      · have h3' : (100 : Int) < (x.length : Int) := by omega
        go_wp2_with fail
        refine (HA.out _ he).mono ?_
        rintro e w1 ⟨rfl, hb1⟩
        go_wp2_with fail
        go_ret
        exact ⟨rfl, hb1⟩
      · have h3' : ¬ (100 : Int) < (x.length : Int) := by omega
        go_wp2_with fail
        go_roundw
        case rel => exact ⟨k + 1, by omega, by go_num, HST.out (by omega), by first | rfl | trivial⟩
        case measure => simp [intOf]; omega
    · have hkx : k = xs.length := by omega
      have HLX := Lib.hid (show ∀ x ∈ xs, x.length ≤ 100 by have := HALL.out; rwa [hkx, List.take_length] at this)
      clear HALL hkx
      have T1 := Lib.hid (fun (w : World) (hN : Cells w N (ints ns)) (hA : Cells w A (strs xs)) (he : Env w) => qtimes_any ns xs N A cn ca w hN hA (by omega) (by omega) HF.out (fun x hx => by have := HLX.out x hx; omega) he)
      have T2 := Lib.hid (fun (w : World) (hN : Cells w N (ints ns)) (hA : Cells w A (strs xs)) => rqtimes_any ns xs N A cn ca w hN hA (by omega) (by omega) HF.out (fun x hx => by have := HLX.out x hx; omega))
      generalize (timesQ ns xs).1 = s at *
      generalize (timesQ ns xs).2 = k2 at *
      have q1 : (s == s) = true := by simp
      have q2 : (k2 == k2) = true := by simp
      go_wp2_with fail
      refine (T1.out _ HN.out HX.out he).mono ?_
      rintro e w1 ⟨rfl, h1⟩
      go_wp2_with fail
      refine (T2.out _ (HN.out.below h1) (HX.out.below h1)).mono ?_
      rintro e w2 ⟨rfl, hb⟩
      have h2 := h1.trans (hb.mono h1.size)
      go_wp2_with fail
      refine (HA.out _ (he.below h2)).mono ?_
      rintro e w3 ⟨rfl, hb⟩
      have h3 := h2.trans (hb.mono h2.size)
      go_wp2_with fail
      go_ret
      exact ⟨rfl, h3⟩
end Go.Proofs.YtkloocjmncconaaGreatDoor

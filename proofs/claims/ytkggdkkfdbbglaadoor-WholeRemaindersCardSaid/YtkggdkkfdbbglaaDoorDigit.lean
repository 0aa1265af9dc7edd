/- nat.digit. -/
import Derived.Test.YtkggdkkfdbbglaaDoorNMul
import Derived.Test.YtkggdkkfdbbglaaDoorOwn2
namespace Go.Proofs.YtkggdkkfdbbglaaDoor
open Go.RowKit Num
set_option linter.unusedVariables false
attribute [local go_sem] B_size B_get B_toList B_mk B_extract
attribute [local go_sem high] run_max2

set_option maxHeartbeats 1000000 in
theorem digit_any (r d : Nat) (A A' : Option Addr) (c c' : Nat) (w : World) (hR : NumAt w A c r) (hD : NumAt w A' c' d) (hlr : (nl r).length ≤ 100000) (hld : (nl d).length ≤ 100000) (hd : 0 < d) (hrd : r < d * 1000000000) :
    Calls Tryd.prog 75 #[.slice A (nl r).length c, .slice A' (nl d).length c'] w fun e w' => e = .returned (.int .i64 ((r / d : Nat) : Int)) ∧ Below w.heap.size w w' := by
  have hq : r / d < 1000000000 := Nat.div_lt_of_lt_mul hrd
  have hle : ∀ m : Nat, d * m ≤ r ↔ m ≤ r / d := fun m => by rw [Nat.le_div_iff_mul_le hd, Nat.mul_comm]
  have HLE := Lib.hid hle
  clear hle
  obtain ⟨q, hqq⟩ : ∃ q, q = r / d := ⟨_, rfl⟩
  rw [← hqq] at hq ⊢
  have HQ := Lib.hid hqq
  clear hqq
  go_enter Tryd.func75, Tryd.ntmps75
  go_wp2_with fail
  go_loopw [5, 6, 7] (fun lo hi _ wr => ∃ l h : Nat, lo = .int .i64 l ∧ hi = .int .i64 h ∧ l ≤ q ∧ q ≤ h ∧ h ≤ 999999999 ∧ Below w.heap.size w wr) (fun lo hi _ _ => (intOf hi - intOf lo).toNat)
  case atStart => exact ⟨0, 999999999, rfl, rfl, by omega, by omega, by omega, Below.refl _ _⟩
  case round =>
    obtain ⟨l, h, rfl, rfl, hl, hh, hm, hbel⟩ := hrel
    by_cases hlt : l < h
    · obtain ⟨m, hmm⟩ : ∃ m, m = (l + h + 1) / 2 := ⟨_, rfl⟩
      have e1 : ((l : Int) + (h : Int) + 1) / 2 = (m : Int) := by omega
      have hm1 : l < m := by omega
      have hm2 : m ≤ h := by omega
      clear hmm
      have hDw := hD.below hbel
      have hRw := hR.below hbel
      have hlen : (nl (d * m)).length ≤ 1000000 := by
        have h1 : d * m < 1000000000 ^ ((nl d).length + 1) := by
          have h2 := nl_length_le.1 (Nat.le_refl (nl d).length)
          rw [Nat.pow_succ]
          exact Nat.lt_of_lt_of_le (Nat.mul_lt_mul_of_lt_of_le h2 (show m ≤ 1000000000 by omega) (by omega)) (Nat.le_refl _)
        have := nl_length_le.2 h1
        omega
      have hT := times_any d m A' c' _ hDw (by omega) (by omega)
      have hDM := Lib.hid (HLE.out m)
      have HDM2 : Hid (d * m ≤ r ↔ m ≤ r / d) := hDM.out
      obtain ⟨p, hp⟩ : ∃ p, p = d * m := ⟨_, rfl⟩
      rw [← hp] at hT hlen
      have HP := Lib.hid hp
      clear hp HDM2
      have HT := Lib.hid hT
      clear hT
      by_cases hc : m ≤ q
      · have hcm : cmpI (p : Int) (r : Int) ≤ 0 := by
          have := (HLE.out m).2 (by rw [← HQ.out]; exact hc)
          rw [← HP.out] at this
          unfold cmpI; split
          · omega
          · rw [if_neg (by omega)]; omega
        go_wp2_with fail
        refine HT.out.mono ?_
        rintro e w2 ⟨A3, c3, rfl, hn, hb2⟩
        go_wp2_with fail
        refine (ncompare_any p r A3 A c3 c _ (by omega) (by omega) hn.cells (hRw.below hb2).cells).mono ?_
        rintro e w3 ⟨rfl, hb3⟩
        go_wp2_with fail
        have h5 := hbel.trans (hb2.mono hbel.size)
        have h6 := h5.trans (hb3.mono h5.size)
        go_roundw
        case rel => exact ⟨m, h, rfl, rfl, hc, hh, hm, h6⟩
        case measure => simp [intOf]; omega
      · have hcm : 0 < cmpI (p : Int) (r : Int) := by
          have h9 : ¬ d * m ≤ r := fun h => hc (by rw [HQ.out]; exact (HLE.out m).1 h)
          rw [← HP.out] at h9
          rw [cmpI_gt (by omega)]; omega
        go_wp2_with fail
        refine HT.out.mono ?_
        rintro e w2 ⟨A3, c3, rfl, hn, hb2⟩
        go_wp2_with fail
        refine (ncompare_any p r A3 A c3 c _ (by omega) (by omega) hn.cells (hRw.below hb2).cells).mono ?_
        rintro e w3 ⟨rfl, hb3⟩
        go_wp2_with fail
        have h5 := hbel.trans (hb2.mono hbel.size)
        have h6 := h5.trans (hb3.mono h5.size)
        go_roundw
        case rel => exact ⟨l, m - 1, rfl, by go_num, hl, by omega, by omega, h6⟩
        case measure => simp [intOf]; omega
    · obtain rfl : l = h := by omega
      obtain rfl : l = q := by omega
      go_wp2_with fail
      go_ret
      exact ⟨rfl, hbel⟩
end Go.Proofs.YtkggdkkfdbbglaaDoor

/- The reference of whole: times. -/
import Derived.Test.YtkggdkkfdbbglaaDoorWRefD
namespace Go.Proofs.YtkggdkkfdbbglaaDoor
open Go.RowKit Num
set_option linter.unusedVariables false
attribute [local go_sem] B_size B_get B_toList B_mk B_extract B_append
attribute [local go_sem high] run_max2

theorem small_mul {x y : Nat} (hx : x < 10) (hy : y < 10) : x * y ≤ 81 := Nat.mul_le_mul (show x ≤ 9 by omega) (show y ≤ 9 by omega)
set_option maxHeartbeats 2000000 in
theorem wtimes_any (a b : Nat) (A A' : Option Addr) (c c' : Nat) (w : World) (hA : DigAt w A c a) (hB : DigAt w A' c' b) (hla : (ns a).length ≤ 1000000) (hlb : (ns b).length ≤ 1000000) :
    Calls Tryd.prog 57 #[.slice A (ns a).length c, .slice A' (ns b).length c'] w fun e w' => ∃ A2 c2, e = .returned (.slice A2 (ns (a * b)).length c2) ∧ DigAt w' A2 c2 (a * b) ∧ Below w.heap.size w w' := by
  obtain ⟨hcx, hcl, hcm⟩ := hA
  obtain ⟨hcx', hcl', hcm'⟩ := hB
  have hx := digl_ns a
  have hy := digl_ns b
  have HX := Lib.hid (lw_ns a)
  have HY := Lib.hid (lw_ns b)
  generalize ns a = xs at *
  generalize ns b = ys at *
  go_enter Tryd.func57, Tryd.ntmps57
  go_wp2_with (refine wp_mkn el_ints rfl _ _ rfl w.heap.size _ .i64 .i64 _ _ (xs.length + ys.length) rfl rfl (by go_num) (by go_num) (by omega) (by unfold maxLen; omega) (Nat.le_refl _) rfl ?_; intro A0 w0 hown0 hb0)
  go_loopw [6, 7, 8, 9] (fun i _ _ _ wr => ∃ (k : Nat) (zs : List Nat), k ≤ xs.length ∧ i = .int .i64 k ∧ OwnS wr w.heap.size 3 A0 (xs.length + ys.length) (xs.length + ys.length) (nums zs) ∧
      digl zs ∧ lw zs = lw (xs.take k) * lw ys ∧ (∀ j, k + ys.length ≤ j → atN zs j = 0) ∧ Below w.heap.size w wr)
    (fun i _ _ _ _ => xs.length - (intOf i).toNat)
  case atStart => exact ⟨0, List.replicate (xs.length + ys.length) 0, Nat.zero_le _, rfl, by rw [nums_replicate]; exact hown0, digl_replicate _, by rw [lw_replicate]; simp [lw], fun j _ => atN_replicate _ _, hb0⟩
  case round =>
    obtain ⟨i, zs, hi, rfl, hown, hz, hv, hzero, hbel⟩ := hrel
    have hzl : zs.length = xs.length + ys.length := by have := hown.len; rw [nums_length] at this; exact this
    have HZL := Lib.hid hzl
    clear hzl
    by_cases hlt : i < xs.length
    · obtain ⟨g, rfl, hg1, hg2, hgc, hgf⟩ := hown.at_ (by omega)
      have HV := Lib.hid hv
      have HZ := Lib.hid hzero
      clear hv hzero hgc hgf
      go_wp2_with fail
      go_loopw [7, 8, 9] (fun cr j _ w2 => ∃ (k : Nat) (us : List Nat) (carry : Nat), k ≤ ys.length + 1 ∧ j = .int .i64 k ∧ cr = .int .i64 carry ∧ OwnS w2 w.heap.size 3 (some ⟨g, 0, none⟩) (xs.length + ys.length) (xs.length + ys.length) (nums us) ∧
          digl us ∧ carry < 10 ∧ (k ≤ ys.length ∨ carry = 0) ∧ lw us + 10 ^ (i + k) * carry = lw (xs.take i) * lw ys + 10 ^ i * atN xs i * lw (ys.take k) ∧ (∀ j, i + max k ys.length ≤ j → atN us j = 0) ∧ Below w.heap.size w w2)
        (fun _ j _ _ => ys.length + 1 - (intOf j).toNat)
      case atStart => exact ⟨0, zs, 0, Nat.zero_le _, rfl, rfl, hown, hz, by omega, .inl (Nat.zero_le _), by rw [HV.out]; simp [lw], fun j hj => HZ.out j (by omega), hbel⟩
      case round =>
        obtain ⟨k, us, carry, hk, rfl, rfl, hown2, hu, hcr, hor, hv2, hzero2, hbel2⟩ := hrel
        have hul : us.length = xs.length + ys.length := by have := hown2.len; rw [nums_length] at this; exact this
        have HUL := Lib.hid hul
        have HG2 := Lib.hid (hown2.at_ (by omega))
        clear hul hown hz hbel
        obtain ⟨g', hg', hg3, hg4, hgc2, hgf2⟩ := HG2.out
        injection hg' with hg'
        injection hg' with hg' _ _
        subst hg'
        clear HG2
        have HO := Lib.hid hor
        have HZ2 := Lib.hid hzero2
        by_cases hgo : k < ys.length ∨ 0 < carry
        · have hky : k ≤ ys.length := by rcases hor with h | h <;> omega
          obtain ⟨bx, offx, rfl, hbx, hcellx⟩ := (hcx.below hbel2) (by rw [nums_length]; omega)
          have hci := Cells.num hcellx i hlt
          have hld : wr.cell? ⟨g, i + k, none⟩ = some (.int .i64 (atN us (i + k) : Int)) := by
            rw [hgc2 (i + k) (by omega), nums_get us (i + k) (by have := HUL.out; omega)]
          have hfr := hgf2 (i + k)
          have hus := atD_lt hu (i + k)
          have hxi := atD_lt hx i
          have hyk := atD_lt hy k
          have hmb := small_mul hxi hyk
          have HS := Lib.hid (mul_step10 us ys i k (atN xs i) carry _ (by have := HUL.out; omega) hv2)
          have hcy := hcx'.below hbel2
          have hq1 : ((atN xs i * atN ys k : Nat) : Int) = (atN xs i : Int) * (atN ys k : Int) := Int.natCast_mul _ _
          have hp1 : 0 ≤ (atN xs i : Int) * (atN ys k : Int) := by rw [← hq1]; omega
          have hp2 : (atN xs i : Int) * (atN ys k : Int) ≤ 81 := by rw [← hq1]; omega
          have HC0 := Lib.hid (show k = ys.length → (atN us (i + k) + atN xs i * atN ys k + carry) / 10 = 0 from fun h => by
            rw [hzero2 (i + k) (by omega), atN_ge (xs := ys) (k := k) (by omega), Nat.mul_zero]; omega)
          have e : (((atN us (i + k) + atN xs i * atN ys k + carry) % 10 : Nat) : Int) = ((atN us (i + k) : Int) + (atN xs i : Int) * (atN ys k : Int) + (carry : Int)) % 10 := by rw [← hq1]; omega
          have HE := Lib.hid e
          have e2 : (((atN us (i + k) + atN xs i * atN ys k + carry) / 10 : Nat) : Int) = ((atN us (i + k) : Int) + (atN xs i : Int) * (atN ys k : Int) + (carry : Int)) / 10 := by rw [← hq1]; omega
          have HE2 := Lib.hid e2
          have hlt10 : (atN us (i + k) + atN xs i * atN ys k + carry) / 10 < 10 := by omega
          have HL10 := Lib.hid hlt10
          have hidx : i + k < xs.length + ys.length := by omega
          clear hmb hv2 hzero2 hcellx hgc2 hq1 e e2 hor hgf2 hlt10
          have hstart : (∀ (wq : World), OwnS wq w.heap.size 3 (some ⟨g, 0, none⟩) (xs.length + ys.length) (xs.length + ys.length) (nums us) → True) := fun _ _ => trivial
          clear hstart
          by_cases hkl : k < ys.length
          all_goals
            (first | (have hcpos : 0 < (carry : Int) := by omega) | skip)
            (first | (have hkd : decide (k < ys.length) = false := by simpa using hkl) | skip)
            clear hgo
            go_wp2_with fail
            go_quiet ((go_at_call 66; exact Calls.quiet_of_same (wdigit_any ys A' c' k _ (by omega) hcl' hcm' hcy)))
            have hown3 : OwnS (wr.drewN ‹Nat›) w.heap.size 3 (some ⟨g, 0, none⟩) (xs.length + ys.length) (xs.length + ys.length) (nums us) := hown2
            have hbel3 : Below w.heap.size w (wr.drewN ‹Nat›) := below_drewN hbel2 _
            have hld3 : (wr.drewN ‹Nat›).cell? ⟨g, i + k, none⟩ = some (.int .i64 (atN us (i + k) : Int)) := hld
            have hfr3 : (wr.drewN ‹Nat›).frozen? ⟨g, i + k, none⟩ = false := hfr
            clear hown2 hbel2 hld hfr hci hcy hcx hcx'
            generalize wr.drewN ‹Nat› = w3 at *
            have hst := hown3.stored (i + k) (.int .i64 (((atN us (i + k) + atN xs i * atN ys k + carry) % 10 : Nat) : Int))
            rw [← nums_set] at hst
            have HST := Lib.hid hst
            clear hst
            go_wp2_with fail
            go_roundw
            case rel =>
              refine ⟨k + 1, us.set (i + k) ((atN us (i + k) + atN xs i * atN ys k + carry) % 10), (atN us (i + k) + atN xs i * atN ys k + carry) / 10, by omega, by go_num, by rw [HE2.out], ?_, digl_set hu (by omega), HL10.out, ?_, HS.out, ?_, hbel3.setCell hg1 _⟩
              · have := HST.out
                rw [HE.out] at this
                exact this
              · rcases Nat.lt_or_ge k ys.length with h | h
                · exact .inl (by omega)
                · exact .inr (HC0.out (by omega))
              · intro j hj
                rw [atN_set _ _ _ _ (by have := HUL.out; omega), if_neg (by omega)]
                exact HZ2.out j (by omega)
            case measure => simp [intOf]; omega
        · have hc0 : carry = 0 := by omega
          have HN := Lib.hid (show lw us = lw (xs.take (i + 1)) * lw ys by
            rw [hc0, Nat.mul_zero, Nat.add_zero, List.take_of_length_le (show ys.length ≤ k by omega)] at hv2
            rw [hv2, lw_take_succ, Nat.add_mul])
          have hcb : decide (0 < (carry : Int)) = false := by simp; omega
          have hkd : decide (k < ys.length) = false := by simp; omega
          subst hc0
          clear hv2 hzero2 hor hgo hgc2 hgf2
          go_wp2_with fail
          go_roundw
          case rel =>
            refine ⟨i + 1, us, by omega, by go_num, hown2, hu, HN.out, ?_, hbel2⟩
            intro j hj
            rcases HO.out with h | h
            · exact HZ2.out j (by omega)
            · exact HZ2.out j (by omega)
          case measure => simp [intOf]; omega
    · obtain rfl : i = xs.length := by omega
      have hval : lw zs = a * b := by rw [hv, List.take_of_length_le (Nat.le_refl _), HX.out, HY.out]
      have HW := Lib.hid (wtrim_num zs (a * b) A0 _ _ wr hz hval HZL.out hown.cap.1 hown.cap.2 hown.cells)
      clear hval hv hzero
      go_wp2_with fail
      refine HW.out.mono ?_
      rintro e w3 ⟨rfl, hd, h⟩
      obtain rfl := h.symm
      go_wp2_with fail
      go_ret
      exact ⟨A0, _, rfl, hd, hbel⟩
end Go.Proofs.YtkggdkkfdbbglaaDoor

/- nat.number.minus. -/
import Derived.Test.YtkggdkkfdbbglaaDoorTimes
import Derived.Deep.QuietTactic
import Derived.BigQuiet
namespace Go.Proofs.YtkggdkkfdbbglaaDoor
open Go.RowKit Num
set_option linter.unusedVariables false
attribute [local go_sem] B_size B_get B_toList B_mk B_extract
attribute [local go_sem high] run_max2

set_option maxHeartbeats 400000 in
theorem minus_any (a m : Nat) (A Am : Option Addr) (c cm : Nat) (w : World) (hA : NumAt w A c a) (hM : NumAt w Am cm m) (hla : (nl a).length ≤ 1000000) (hma : m ≤ a) :
    Calls Tryd.prog 64 #[.slice A (nl a).length c, .slice Am (nl m).length cm] w fun e w' => ∃ A' c', e = .returned (.slice A' (nl (a - m)).length c') ∧ NumAt w' A' c' (a - m) ∧ Below w.heap.size w w' := by
  obtain ⟨hcells, hle, hcap⟩ := hA
  obtain ⟨hmc, hmle, hmcap⟩ := hM
  have hx := limbs_nl a
  have hy := limbs_nl m
  have hlm := nl_length_mono hma
  have hxv := Lib.hid (lv_nl a)
  have hyv := Lib.hid (lv_nl m)
  generalize nl a = xs at *
  generalize nl m = us at *
  go_enter Tryd.func64, Tryd.ntmps64
  go_wp2_with (refine wp_mk0 el_number rfl _ _ rfl w.heap.size _ .i64 .i64 _ xs.length rfl rfl rfl (by omega) (by unfold maxLen; omega) (Nat.le_refl _) ?_; intro A0 w0 hown0 hb0)
  go_loopw [5, 6, 7, 8, 14] (fun v cr _ _ i wr => ∃ (k : Nat) (ys : List Nat) (A' : Option Addr) (c' borrow : Nat), k ≤ xs.length ∧ i = .int .i64 k ∧ v = .slice A' k c' ∧ cr = .int .i64 borrow ∧ OwnS wr w.heap.size 3 A' k c' (nums ys) ∧
      ys.length = k ∧ limbs ys ∧ borrow ≤ 1 ∧ lv ys + lv (us.take k) = lv (xs.take k) + 1000000000 ^ k * borrow ∧ Below w.heap.size w wr)
    (fun _ _ _ _ i _ => xs.length - (intOf i).toNat)
  case atStart => exact ⟨0, [], A0, xs.length, 0, Nat.zero_le _, rfl, rfl, rfl, hown0, rfl, limbs_nil, by omega, by simp [lv], hb0⟩
  case round =>
    obtain ⟨k, ys, A', c', borrow, hk, rfl, rfl, rfl, hown, hyl, hyy, hcr, hv, hbel⟩ := hrel
    by_cases hlt : k < xs.length
    · have hxk := atN_lt hx k
      have hyk := atN_lt hy k
      obtain ⟨b, off, rfl, hb, hcell⟩ := (hcells.below hbel) (by rw [nums_length]; omega)
      have hck := Cells.num hcell k hlt
      have HB := Lib.hid hcell
      have hmw := hmc.below hbel
      have HY := Lib.hid hyl
      have HS := Lib.hid (fun d borrow' => sub_step xs us ys k borrow d borrow' hyl hv)
      clear hyl hv hcell
      by_cases hneg : atN xs k < atN us k + borrow
      all_goals
        go_wp2_with fail
        go_quiet ((go_at_call 61; exact Calls.quiet_of_same (limb_any us Am cm k _ (by omega) hmle hmcap hmw)))
        have hown2 : OwnS (wr.drewN ‹Nat›) w.heap.size 3 A' k c' (nums ys) := hown
        have hbel2 : Below w.heap.size w (wr.drewN ‹Nat›) := below_drewN hbel _
        clear hown hbel hmw hck hcells hmc hb0
        generalize wr.drewN ‹Nat› = w2 at *
      · have hn1 : (atN xs k : Int) - (atN us k : Int) - (borrow : Int) < 0 := by omega
        go_wp2_with (at_builtin; refine wp_app1 el_number rfl _ _ rfl w.heap.size _ _ _ _ _ _ rfl hown2 rfl rfl (by unfold maxLen; omega) (by omega) hbel2.size ?_; intro A2 c2 w1 hown1 hb1)
        go_roundw
        case rel =>
          refine ⟨k + 1, ys ++ [atN xs k + 1000000000 - atN us k - borrow], A2, c2, 1, by omega, by go_num, rfl, rfl, ?_, by simp [HY.out], limbs_snoc hyy (by omega), by omega, HS.out _ 1 (by omega), hbel2.trans hb1⟩
          rw [nums_snoc]
          have e : ((atN xs k + 1000000000 - atN us k - borrow : Nat) : Int) = (atN xs k : Int) - (atN us k : Int) - (borrow : Int) + 1000000000 := by omega
          rw [e]; exact hown1
        case measure => simp [intOf]; omega
      · have hn1 : 0 ≤ (atN xs k : Int) - (atN us k : Int) - (borrow : Int) := by omega
        go_wp2_with (at_builtin; refine wp_app1 el_number rfl _ _ rfl w.heap.size _ _ _ _ _ _ rfl hown2 rfl rfl (by unfold maxLen; omega) (by omega) hbel2.size ?_; intro A2 c2 w1 hown1 hb1)
        go_roundw
        case rel =>
          refine ⟨k + 1, ys ++ [atN xs k - atN us k - borrow], A2, c2, 0, by omega, by go_num, rfl, rfl, ?_, by simp [HY.out], limbs_snoc hyy (by omega), by omega, HS.out _ 0 (by omega), hbel2.trans hb1⟩
          rw [nums_snoc]
          have e : ((atN xs k - atN us k - borrow : Nat) : Int) = (atN xs k : Int) - (atN us k : Int) - (borrow : Int) := by omega
          rw [e]; exact hown1
        case measure => simp [intOf]; omega
    · obtain rfl : k = xs.length := by omega
      have hres : lv ys = a - m := by
        have h1 := hxv.out
        have h2 := hyv.out
        rw [List.take_of_length_le (Nat.le_refl _), List.take_of_length_le (by omega), h1, h2] at hv
        have h3 := lv_lt ys hyy
        rw [hyl] at h3
        rcases Nat.lt_or_ge 0 borrow with hb | hb
        · have : borrow = 1 := by omega
          subst this; omega
        · have : borrow = 0 := by omega
          subst this; omega
      have HR := Lib.hid hres
      have HY := Lib.hid hyl
      clear hyl hv hres
      go_wp2_with fail
      refine (trim_num ys (a - m) A' xs.length c' _ hyy HR.out HY.out hown.cap.1 hown.cap.2 hown.cells).mono ?_
      rintro e w' ⟨rfl, hnum, rfl⟩
      go_wp2_with fail
      go_ret
      exact ⟨A', c', rfl, hnum, hbel⟩
end Go.Proofs.YtkggdkkfdbbglaaDoor

/- nat.number.times. -/
import Derived.Test.YtkggdkkfdbbglaaDoorTwo
import Derived.Test.YtkggdkkfdbbglaaDoorNumB
namespace Go.Proofs.YtkggdkkfdbbglaaDoor
open Go.RowKit Num
set_option linter.unusedVariables false
attribute [local go_sem] B_size B_get B_toList B_mk B_extract
attribute [local go_sem high] run_max2

theorem trim_num (xs : List Nat) (v : Nat) (A : Option Addr) (n c : Nat) (w : World) (hx : limbs xs) (hv : lv xs = v) (hn : xs.length = n) (hl : n ≤ c) (hm : c ≤ maxLen) (hc : Cells w A (nums xs)) :
    Calls Tryd.prog 73 #[.slice A n c] w fun e w' => e = .returned (.slice A (nl v).length c) ∧ NumAt w A c v ∧ w' = w := by
  subst hv; subst hn
  refine (trim_any xs A c w hx hl hm hc).mono fun e w' ⟨he, hw⟩ => ⟨he, ?_, hw⟩
  have h1 := take_nl xs hx
  have h2 := congrArg List.length h1
  rw [List.length_take] at h2
  refine ⟨?_, by omega, hm⟩
  have := hc.take (nl (lv xs)).length
  unfold nums at this ⊢
  rw [← List.map_take, h1] at this
  exact this

set_option maxHeartbeats 400000 in
theorem times_any (a m : Nat) (A : Option Addr) (c : Nat) (w : World) (hA : NumAt w A c a) (hla : (nl a).length ≤ 1000000) (hm : m < 1000000000) :
    Calls Tryd.prog 76 #[.slice A (nl a).length c, .int .i64 m] w fun e w' => ∃ A' c', e = .returned (.slice A' (nl (a * m)).length c') ∧ NumAt w' A' c' (a * m) ∧ Below w.heap.size w w' := by
  obtain ⟨hcells, hle, hcap⟩ := hA
  have hx := limbs_nl a
  have hxv := Lib.hid (lv_nl a)
  generalize nl a = xs at *
  go_enter Tryd.func76, Tryd.ntmps76
  go_wp2_with (refine wp_mk0 el_number rfl _ _ rfl w.heap.size _ .i64 .i64 _ (xs.length + 1) rfl rfl (by go_num) (by omega) (by unfold maxLen; omega) (Nat.le_refl _) ?_; intro A0 w0 hown0 hb0)
  go_loopw [5, 6, 8, 15] (fun v cr _ i wr => ∃ (k : Nat) (ys : List Nat) (A' : Option Addr) (c' carry : Nat), k ≤ xs.length ∧ i = .int .i64 k ∧ v = .slice A' k c' ∧ cr = .int .i64 carry ∧ OwnS wr w.heap.size 3 A' k c' (nums ys) ∧
      ys.length = k ∧ limbs ys ∧ carry < 1000000000 ∧ lv ys + 1000000000 ^ k * carry = lv (xs.take k) * m ∧ Below w.heap.size w wr)
    (fun _ _ _ i _ => xs.length - (intOf i).toNat)
  case atStart => exact ⟨0, [], A0, xs.length + 1, 0, Nat.zero_le _, rfl, rfl, rfl, hown0, rfl, limbs_nil, by omega, by simp [lv], hb0⟩
  case round =>
    obtain ⟨k, ys, A', c', carry, hk, rfl, rfl, rfl, hown, hyl, hy, hcr, hv, hbel⟩ := hrel
    by_cases hlt : k < xs.length
    · have HS := Lib.hid (times_step xs ys k m carry hyl hv)
      have HY := Lib.hid hyl
      have hxk := atN_lt hx k
      have hcl := carry_lt _ m carry hxk hm hcr
      obtain ⟨b, off, rfl, hb, hcell⟩ := (hcells.below hbel) (by rw [nums_length]; omega)
      have hck := Cells.num hcell k hlt
      have hq1 : ((atN xs k * m : Nat) : Int) = (atN xs k : Int) * (m : Int) := Int.natCast_mul _ _
      have hp1 : 0 ≤ (atN xs k : Int) * (m : Int) := by rw [← hq1]; omega
      have hp2 : (atN xs k : Int) * (m : Int) ≤ 999999998000000001 := by
        rw [← hq1]
        have : atN xs k * m ≤ 999999999 * 999999999 := Nat.mul_le_mul (by omega) (by omega)
        omega
      have HQ := Lib.hid hq1
      have HC := Lib.hid hcl
      have HB := Lib.hid hcell
      clear hyl hv hq1 hcl hcell
      go_wp2_with (at_builtin; refine wp_app1 el_number rfl _ _ rfl w.heap.size _ _ _ _ _ _ rfl hown rfl rfl (by unfold maxLen; omega) (by omega) hbel.size ?_; intro A2 c2 w1 hown1 hb1)
      go_roundw
      case rel =>
        have hcl := HC.out
        refine ⟨k + 1, ys ++ [(atN xs k * m + carry) % 1000000000], A2, c2, (atN xs k * m + carry) / 1000000000, by omega, by go_num, rfl, ?_, ?_, by simp [HY.out], limbs_snoc hy (by omega), hcl.2, HS.out, hbel.trans hb1⟩
        · congr 1
        · rw [nums_snoc]
          have e : ((((atN xs k * m + carry) % 1000000000 : Nat)) : Int) = ((atN xs k : Int) * (m : Int) + carry) % 1000000000 := by rw [← HQ.out]; omega
          rw [e]; exact hown1
      case measure => simp [intOf]; omega
    · obtain rfl : k = xs.length := by omega
      have hlast : limbs (ys ++ [carry]) ∧ lv (ys ++ [carry]) = a * m := by
        refine ⟨limbs_snoc hy hcr, ?_⟩
        rw [lv_snoc, hyl, hv, List.take_of_length_le (Nat.le_refl _), hxv.out]
      have HL := Lib.hid hlast.2
      have HY := Lib.hid hyl
      have hl1 := hlast.1
      clear hyl hv hlast
      go_wp2_with (at_builtin; refine wp_app1 el_number rfl _ _ rfl w.heap.size _ _ _ _ _ _ rfl hown rfl rfl (by unfold maxLen; omega) (by omega) hbel.size ?_; intro A2 c2 w1 hown1 hb1)
      refine (trim_num (ys ++ [carry]) (a * m) A2 (xs.length + 1) c2 _ hl1 HL.out (by simp [HY.out]) hown1.cap.1 hown1.cap.2 (by rw [nums_snoc]; exact hown1.cells)).mono ?_
      rintro e w' ⟨rfl, hnum, rfl⟩
      go_wp2_with fail
      go_ret
      exact ⟨A2, c2, rfl, hnum, hbel.trans hb1⟩
end Go.Proofs.YtkggdkkfdbbglaaDoor

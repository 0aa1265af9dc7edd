/- The law's own tests of size: Small, short. -/
import Derived.Test.YtblihfhbaafdoaaGreatDoorG16
namespace Go.Proofs.YtblihfhbaafdoaaGreatDoor
open Go.RowKit Num
set_option linter.unusedVariables false
attribute [local go_sem] B_size B_get B_toList B_mk B_extract B_append
attribute [local go_sem high] run_max2

def smallB (cost : List Int) (rs : List RowV) : Bool := decide (cost.length ≤ 12) && decide (rs.length ≤ 12) && rs.all (fun r => decide (r.L.coef.length ≤ 14))
def shortB (xs : List Str) : Bool := (xs.take 15).all (fun x => decide (x.length ≤ 60)) && decide (xs.length ≤ 14)
theorem short_ok {xs : List Str} (h : shortB xs = true) : xs.length ≤ 14 ∧ ∀ x ∈ xs, x.length ≤ 60 := by
  unfold shortB at h
  simp only [Bool.and_eq_true, decide_eq_true_eq, List.all_eq_true] at h
  refine ⟨h.2, fun x hx => h.1 x ?_⟩
  rw [List.take_of_length_le (by omega)]; exact hx
set_option maxHeartbeats 1000000 in
set_option maxRecDepth 100000 in
theorem small_any (cost : List Int) (rs : List RowV) (A : Option Addr) (ca : Nat) (R : Option Addr) (cr : Nat) (w : World) (hp : LinAt w cost rs A ca R cr) :
    Calls Tryz.prog 9 #[linV A cost.length ca R rs.length cr] w fun e w' => e = .returned (.bool (smallB cost rs)) ∧ Below w.heap.size w w' := by
  have hla := hp.la
  have hlr := hp.lr
  unfold maxLen at hla hlr
  have b0 := new_below w (linO A cost.length ca R rs.length cr)
  have HP := Lib.hid hp
  clear hp
  by_cases h1 : cost.length ≤ 12
  · have h1' : ¬ (12 : Int) < (cost.length : Int) := by omega
    by_cases h2 : rs.length ≤ 12
    · have h2' : ¬ (12 : Int) < (rs.length : Int) := by omega
      have HV := Lib.hid (show smallB cost rs = rs.all (fun r => decide (r.L.coef.length ≤ 14)) by unfold smallB; simp [h1, h2])
      obtain ⟨d0, d1, d2⟩ := lin_cells (w := w) (u := .slice A cost.length ca) (v := .slice R rs.length cr) (t := 25) (Below.refl _ _)
      go_enter Tryz.func9, Tryz.ntmps9
      go_wp2_with fail
      go_loopw [2, 3] (fun _ i wr => ∃ k : Nat, k ≤ rs.length ∧ i = .int .i64 k ∧ (rs.take k).all (fun r => decide (r.L.coef.length ≤ 14)) = true ∧ wr = w.alloc (linO A cost.length ca R rs.length cr)) (fun _ i _ => rs.length - (intOf i).toNat)
      case atStart => exact ⟨0, Nat.zero_le _, rfl, rfl, rfl⟩
      case round =>
        obtain ⟨k, hk, rfl, hall, rfl⟩ := hrel
        have HALL := Lib.hid hall
        clear hall
        by_cases hlt : k < rs.length
        · obtain ⟨bR, oR, rfl, hbR, hcR⟩ := HP.out.rows.at (by omega)
          have hc0 := (b0.cell (p := ⟨bR, oR + k * 3, none⟩) hbR).trans (hcR k hlt).1
          clear hcR
          have hok := HP.out.ok rs[k] (List.getElem_mem hlt)
          have hcl : rs[k].L.coef.length ≤ maxLen := Nat.le_trans hok.1 hok.2.1
          unfold maxLen at hcl
          have HT := Lib.hid (fun h => all_take (f := fun r : RowV => decide (r.L.coef.length ≤ 14)) hlt HALL.out h)
          have HB := Lib.hid (fun h => all_bad (f := fun r : RowV => decide (r.L.coef.length ≤ 14)) hlt h)
          generalize rs[k] = r at *
          clear hok
          by_cases h3 : r.L.coef.length ≤ 14
          · have h3' : ¬ (14 : Int) < (r.L.coef.length : Int) := by omega
            have HT2 := Lib.hid (HT.out (by simpa using h3))
            go_wp2_with fail
            go_roundw
            case rel => exact ⟨k + 1, by omega, by go_num, HT2.out, by first | rfl | trivial⟩
            case measure => simp [intOf]; omega
          · have h3' : (14 : Int) < (r.L.coef.length : Int) := by omega
            have HB2 := Lib.hid (HB.out (by simpa using h3))
            go_wp2_with fail
            go_ret
            exact ⟨ret_bool (by rw [HV.out, HB2.out]), b0⟩
        · have hkx : k = rs.length := by omega
          have HA := Lib.hid (show rs.all (fun r => decide (r.L.coef.length ≤ 14)) = true by have := HALL.out; rwa [hkx, List.take_length] at this)
          clear hkx
          go_wp2_with fail
          go_ret
          exact ⟨ret_bool (by rw [HV.out, HA.out]), b0⟩
    · have h2' : (12 : Int) < (rs.length : Int) := by omega
      have HV := Lib.hid (show smallB cost rs = false by unfold smallB; simp [h1, h2])
      obtain ⟨d0, d1, d2⟩ := lin_cells (w := w) (u := .slice A cost.length ca) (v := .slice R rs.length cr) (t := 25) (Below.refl _ _)
      go_enter Tryz.func9, Tryz.ntmps9
      go_wp2_with fail
      go_ret
      exact ⟨ret_bool HV.out.symm, b0⟩
  · have h1' : (12 : Int) < (cost.length : Int) := by omega
    have HV := Lib.hid (show smallB cost rs = false by unfold smallB; simp [h1])
    go_enter Tryz.func9, Tryz.ntmps9
    go_wp2_with fail
    go_ret
    exact ⟨ret_bool HV.out.symm, b0⟩
set_option maxHeartbeats 1000000 in
set_option maxRecDepth 100000 in
theorem shortl_any (xs : List Str) (X : Option Addr) (cx : Nat) (w : World) (hX : Cells w X (strs xs)) (hx : xs.length ≤ cx ∧ cx ≤ maxLen) (hl : ∀ x ∈ xs, x.length ≤ maxLen) :
    Calls Tryz.prog 14 #[.slice X xs.length cx] w fun e w' => e = .returned (.bool (shortB xs)) ∧ w' = w := by
  unfold maxLen at hx
  have HX := Lib.hid hX
  have HL := Lib.hid hl
  clear hX hl
  go_enter Tryz.func14, Tryz.ntmps14
  go_wp2_with fail
  go_loop [2, 3] (fun _ i => ∃ k : Nat, k ≤ xs.length ∧ k ≤ 15 ∧ i = .int .i64 k ∧ (xs.take k).all (fun x => decide (x.length ≤ 60)) = true) (fun _ i => xs.length - (intOf i).toNat)
  case atStart => exact ⟨0, Nat.zero_le _, by omega, rfl, rfl⟩
  case round =>
    obtain ⟨k, hk, hk15, rfl, hall⟩ := hrel
    have HALL := Lib.hid hall
    clear hall
    by_cases hlt : k < xs.length
    · by_cases h15 : k < 15
      · have h15' : (k : Int) < 15 := by omega
        obtain ⟨bA, oA, rfl, hbA, hcA⟩ := HX.out.at (by rw [strs_length]; omega)
        have hld : w.cell? ⟨bA, oA + k, none⟩ = some (.string (B xs[k])) := by
          rw [hcA k (by rw [strs_length]; exact hlt)]; simp [strs]
        clear hcA
        have hxl := HL.out xs[k] (List.getElem_mem hlt)
        unfold maxLen at hxl
        have HT := Lib.hid (fun h => all_take (f := fun x : Str => decide (x.length ≤ 60)) hlt HALL.out h)
        have HB := Lib.hid (fun (h : decide (xs[k].length ≤ 60) = false) => all_bad (f := fun x : Str => decide (x.length ≤ 60)) (l := xs.take 15) (k := k) (by rw [List.length_take]; omega) (by rw [List.getElem_take]; exact h))
        generalize xs[k] = x at *
        by_cases h3 : x.length ≤ 60
        · have h3' : ¬ (60 : Int) < (x.length : Int) := by omega
          have HT2 := Lib.hid (HT.out (by simpa using h3))
          go_wp2_with fail
          go_round
          case rel => exact ⟨k + 1, by omega, by omega, by go_num, HT2.out⟩
          case measure => simp [intOf]; omega
        · have h3' : (60 : Int) < (x.length : Int) := by omega
          have HB2 := Lib.hid (HB.out (by simpa using h3))
          have HV := Lib.hid (show shortB xs = false by unfold shortB; rw [HB2.out]; rfl)
          go_wp2_with fail
          go_ret
          exact ⟨ret_bool HV.out.symm, rfl⟩
      · have h15' : ¬ (k : Int) < 15 := by omega
        have h14 : ¬ (xs.length : Int) ≤ 14 := by omega
        have HV := Lib.hid (show shortB xs = false by unfold shortB; rw [show decide (xs.length ≤ 14) = false by simp; omega]; simp)
        go_wp2_with fail
        go_ret
        exact ⟨ret_bool HV.out.symm, rfl⟩
    · have hkx : k = xs.length := by omega
      have HA := Lib.hid (show (xs.take 15).all (fun x => decide (x.length ≤ 60)) = true by have := HALL.out; rw [hkx, List.take_length] at this; rw [List.take_of_length_le (by omega)]; exact this)
      by_cases h14 : xs.length ≤ 14
      · have h14' : (xs.length : Int) ≤ 14 := by omega
        have HV := Lib.hid (show shortB xs = true by unfold shortB; rw [HA.out]; simpa using h14)
        clear hkx
        go_wp2_with fail
        go_ret
        exact ⟨ret_bool HV.out.symm, rfl⟩
      · have h14' : ¬ (xs.length : Int) ≤ 14 := by omega
        have HV := Lib.hid (show shortB xs = false by unfold shortB; rw [show decide (xs.length ≤ 14) = false by simp; omega]; simp)
        clear hkx
        go_wp2_with fail
        go_ret
        exact ⟨ret_bool HV.out.symm, rfl⟩
end Go.Proofs.YtblihfhbaafdoaaGreatDoor

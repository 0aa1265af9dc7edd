/- cmp.Compare, cmp.Or. -/
import Derived.Test.YtbjjbfefbkamoaaDoorTrim
namespace Go.Proofs.YtbjjbfefbkamoaaDoor
open Go.RowKit Num
attribute [local go_sem] B_size B_get B_toList B_mk
def cmpI (a b : Int) : Int := if a < b then -1 else if b < a then 1 else 0
def cmpS (a b : List UInt8) : Int := if Op.bytesLess a b then -1 else if a = b then 0 else 1

theorem cmp_int_any (a b : Int) (w : World) : Calls Tryd.prog 25 #[.int .i64 a, .int .i64 b] w fun e w' => e = .returned (.int .i64 (cmpI a b)) ∧ w' = w := by
  have h1 : (a != a) = false := by simp
  have h2 : (b != b) = false := by simp
  by_cases h : a < b
  · go_enter Tryd.func25, Tryd.ntmps25
    go_wp2
    go_ret
    exact ⟨ret_int (by simp [cmpI, h]), rfl⟩
  · by_cases h' : b < a
    · go_enter Tryd.func25, Tryd.ntmps25
      go_wp2
      go_ret
      exact ⟨ret_int (by rw [cmpI, if_neg (by omega), if_pos h']), rfl⟩
    · go_enter Tryd.func25, Tryd.ntmps25
      go_wp2
      go_ret
      exact ⟨ret_int (by rw [cmpI, if_neg (by omega), if_neg (by omega)]), rfl⟩
theorem cmp_str_any (a b : List UInt8) (w : World) : Calls Tryd.prog 26 #[.string (B a), .string (B b)] w fun e w' => e = .returned (.int .i64 (cmpS a b)) ∧ w' = w := by
  have h1 : (!(a == a)) = false := by simp
  have h2 : (!(b == b)) = false := by simp
  by_cases h : Op.bytesLess a b = true
  · have HR := Lib.hid (show cmpS a b = -1 by simp [cmpS, h])
    go_enter Tryd.func26, Tryd.ntmps26
    go_wp2
    go_ret
    exact ⟨ret_int HR.out.symm, rfl⟩
  · have h3 : Op.bytesLess a b = false := by simpa using h
    clear h
    by_cases he : a = b
    · have HR := Lib.hid (show cmpS a b = 0 by rw [cmpS, h3]; simp [he])
      have h4 : (a == b) = true := by simpa using he
      clear he
      go_enter Tryd.func26, Tryd.ntmps26
      go_wp2
      go_ret
      exact ⟨ret_int HR.out.symm, rfl⟩
    · have HR := Lib.hid (show cmpS a b = 1 by simp [cmpS, h3, he])
      have h4 : (a == b) = false := by simpa using he
      clear he
      go_enter Tryd.func26, Tryd.ntmps26
      go_wp2
      go_ret
      exact ⟨ret_int HR.out.symm, rfl⟩

def or2 (a b : Int) : Int := if a = 0 then b else a
/-- cmp.Or of two numbers -/
theorem cmp_or_two (a b : Int) (bl off c : Nat) (w : World) (h0 : w.cell? ⟨bl, off, none⟩ = some (.int .i64 a)) (h1 : w.cell? ⟨bl, off + 1, none⟩ = some (.int .i64 b)) :
    Calls Tryd.prog 24 #[.slice (some ⟨bl, off, none⟩) 2 c] w fun e w' => e = .returned (.int .i64 (or2 a b)) ∧ w' = w := by
  have hc : ∀ k : Nat, k < 2 → w.cell? ⟨bl, off + k, none⟩ = some (.int .i64 (if k = 0 then a else b)) := by
    intro k hk
    rcases Nat.lt_or_ge k 1 with h | h
    · obtain rfl : k = 0 := by omega
      simpa using h0
    · obtain rfl : k = 1 := by omega
      simpa using h1
  clear h0 h1
  go_enter Tryd.func24, Tryd.ntmps24
  go_wp2
  go_loop [5, 8] (fun _ i => ∃ k : Nat, k ≤ 2 ∧ i = .int .i64 k ∧ ∀ j, j < k → (if j = 0 then a else b) = 0) (fun _ i => 2 - (intOf i).toNat)
  case atStart => exact ⟨0, by omega, rfl, fun j hj => absurd hj (by omega)⟩
  case round =>
    obtain ⟨k, hk, rfl, hz⟩ := hrel
    have HZ := Lib.hid hz
    clear hz
    by_cases hlt : k < 2
    · have hcell := hc k hlt
      generalize hx : (if k = 0 then a else b) = x at hcell
      have HX := Lib.hid hx
      clear hx
      by_cases hx0 : x = 0
      · have ht : (x != 0) = false := by rw [hx0]; rfl
        have H0 := Lib.hid hx0
        clear hx0 hc
        go_wp2
        go_round
        case rel =>
          refine ⟨k + 1, by omega, by go_num, fun j hj => ?_⟩
          rcases Nat.lt_or_ge j k with h | h
          · exact HZ.out j h
          · obtain rfl : j = k := by omega
            rw [HX.out, H0.out]
        case measure => simp [intOf]; omega
      · have ht : (x != 0) = true := by simpa using hx0
        have H0 := Lib.hid hx0
        clear hx0 hc
        go_wp2
        go_ret
        have h3 := HX.out
        by_cases hk0 : k = 0
        · rw [if_pos hk0] at h3; exact ⟨ret_int (by subst h3; rw [or2, if_neg H0.out]), rfl⟩
        · have := HZ.out 0 (by omega)
          rw [if_pos rfl] at this
          rw [if_neg hk0] at h3
          exact ⟨ret_int (by rw [or2, if_pos this, h3]), rfl⟩
    · clear hc
      go_wp2
      go_ret
      have h3 := HZ.out 0 (by omega)
      have h4 := HZ.out 1 (by omega)
      simp at h3 h4
      exact ⟨ret_int (by simp [or2, h3, h4]), rfl⟩
end Go.Proofs.YtbjjbfefbkamoaaDoor

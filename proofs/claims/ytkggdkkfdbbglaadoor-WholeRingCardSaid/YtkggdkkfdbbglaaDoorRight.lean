/- nat.Right. -/
import Derived.Test.YtkggdkkfdbbglaaDoorBase
namespace Go.Proofs.YtkggdkkfdbbglaaDoor
open Go.RowKit Num
attribute [local go_sem] B_size B_get B_toList B_mk
set_option maxHeartbeats 400000 in
theorem right_any (l : List UInt8) (w : World) (hs : l.length ≤ maxLen) :
    Calls Tryd.prog 70 #[.string (B l)] w fun e w' => e = .returned (.bool (right l)) ∧ w' = w := by
  unfold maxLen at hs
  by_cases h0 : l = []
  · subst h0
    go_enter Tryd.func70, Tryd.ntmps70
    go_wp2
    go_ret
    exact ⟨rfl, rfl⟩
  · have hlen : 0 < l.length := List.length_pos_iff.2 h0
    have he : l.isEmpty = false := by simpa using h0
    have hh := Lib.hid (at8_zero_head l h0)
    have loop : (((at8 l 0).toNat : Int) == 48) = false ∨ ((((at8 l 0).toNat : Int) == 48) = true ∧ (!(l == [48])) = false) →
        Calls Tryd.prog 70 #[.string (B l)] w fun e w' => e = .returned (.bool (right l)) ∧ w' = w := by
      intro hor
      have hr : right l = l.all isDig := by
        unfold right; rw [he, hh.out]
        rcases hor with h | ⟨h, h1⟩
        · have : at8 l 0 ≠ 48 := by rintro e; rw [e] at h; simp at h
          simp [this]
        · rw [Bool.not_eq_false'] at h1; rw [h1]; simp
      have HR := Lib.hid hr
      clear hr hh h0
      rcases hor with h1 | ⟨h1, h2⟩
      all_goals
        go_enter Tryd.func70, Tryd.ntmps70
        go_wp2
        go_loop [3, 17] (fun _ i => ∃ k : Nat, k ≤ l.length ∧ i = .int .i64 k ∧ (l.take k).all isDig = true) (fun _ i => l.length - (intOf i).toNat)
        case atStart => exact ⟨0, Nat.zero_le _, rfl, by simp⟩
        case round =>
          obtain ⟨k, hk, rfl, hall⟩ := hrel
          have HA := Lib.hid hall
          clear hall h1
          by_cases hlt : k < l.length
          · by_cases hd : isDig (at8 l k) = true
            · have hd' : 48 ≤ ((at8 l k).toNat : Int) ∧ ((at8 l k).toNat : Int) ≤ 57 := by simp [isDig] at hd; omega
              have HT := Lib.hid (all_take_succ hlt HA.out hd)
              clear hd
              go_wp2
              go_round
              case rel => exact ⟨k + 1, by omega, by go_num, HT.out⟩
              case measure => simp [intOf]; omega
            · have HT := Lib.hid (not_all_of (p := isDig) hlt (by simpa using hd))
              by_cases hlo : ((at8 l k).toNat : Int) < 48
              · clear hd
                go_wp2
                go_ret
                exact ⟨ret_bool (by rw [HR.out, HT.out]), rfl⟩
              · have hhi : (57 : Int) < ((at8 l k).toNat : Int) := by simp [isDig] at hd; omega
                clear hd
                go_wp2
                go_ret
                exact ⟨ret_bool (by rw [HR.out, HT.out]), rfl⟩
          · go_wp2
            go_ret
            exact ⟨ret_bool (by rw [HR.out, ← HA.out, List.take_of_length_le (by omega)]), rfl⟩
    by_cases h1 : (((at8 l 0).toNat : Int) == 48) = true
    · by_cases h2 : (!(l == [48])) = false
      · exact loop (.inr ⟨h1, h2⟩)
      · have h2' : (!(l == [48])) = true := by simpa using h2
        have hr : right l = false := by
          unfold right; rw [he, hh.out]
          have : at8 l 0 = 48 := by apply UInt8.toNat_inj.1; simp at h1; simp; omega
          rw [this]
          simp at h2'
          simp [h2']
        have HR := Lib.hid hr
        clear hr hh h0 h2 loop
        go_enter Tryd.func70, Tryd.ntmps70
        go_wp2
        go_ret
        exact ⟨ret_bool HR.out.symm, rfl⟩
    · exact loop (.inl (by simpa using h1))
end Go.Proofs.YtkggdkkfdbbglaaDoor

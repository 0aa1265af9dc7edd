/- nat.two. -/
import Derived.Test.YtkggdkkfdbbglaaDoorRead
import Derived.Test.YtkggdkkfdbbglaaDoorRight
namespace Go.Proofs.YtkggdkkfdbbglaaDoor
open Go.RowKit Num
set_option linter.unusedVariables false
attribute [local go_sem] B_size B_get B_toList B_mk B_extract
attribute [local go_sem high] run_max2

/-- the common errors of two texts: 3 is ErrForm, 4 is ErrSize -/
def errT (a b : List UInt8) : Int := if right a = true ∧ right b = true then (if a.length ≤ 4096 ∧ b.length ≤ 4096 then 0 else 4) else 3
theorem errT_zero {a b : List UInt8} : errT a b = 0 ↔ right a = true ∧ right b = true ∧ a.length ≤ 4096 ∧ b.length ≤ 4096 := by
  unfold errT
  by_cases h : right a = true ∧ right b = true
  · rw [if_pos h]
    by_cases h2 : a.length ≤ 4096 ∧ b.length ≤ 4096
    · rw [if_pos h2]; exact ⟨fun _ => ⟨h.1, h.2, h2⟩, fun _ => rfl⟩
    · rw [if_neg h2]; exact ⟨(fun h => by cases h), fun h' => absurd h'.2.2 h2⟩
  · rw [if_neg h]; exact ⟨(fun h => by cases h), fun h' => absurd ⟨h'.1, h'.2.1⟩ h⟩

theorem errT_dec {p q : Nat} (hp : (dec p).length ≤ 4096) (hq : (dec q).length ≤ 4096) : errT (dec p) (dec q) = 0 := errT_zero.2 ⟨right_dec p, right_dec q, hp, hq⟩
theorem two_err (a b : List UInt8) (w : World) (ha : a.length ≤ maxLen) (hb : b.length ≤ maxLen) (he : errT a b ≠ 0) :
    Calls Tryd.prog 58 #[.string (B a), .string (B b)] w fun e w' => e = .returned (.tuple #[.slice none 0 0, .slice none 0 0, .int .i64 (errT a b)]) ∧ w' = w := by
  cases h1 : right a
  · have HR := Lib.hid (show errT a b = 3 by rw [errT, if_neg (by simp [h1])])
    clear he
    go_enter Tryd.func58, Tryd.ntmps58
    go_wp2_with fail
    refine (right_any _ _ ha).mono ?_; rintro e w' ⟨rfl, rfl⟩
    go_wp2_with fail
    go_ret3
    exact ⟨by rw [HR.out]; rfl, rfl⟩
  · cases h2 : right b
    · have HR := Lib.hid (show errT a b = 3 by rw [errT, if_neg (by simp [h2])])
      clear he
      go_enter Tryd.func58, Tryd.ntmps58
      go_wp2_with fail
      refine (right_any _ _ ha).mono ?_; rintro e w' ⟨rfl, rfl⟩
      go_wp2_with fail
      refine (right_any _ _ hb).mono ?_; rintro e w' ⟨rfl, rfl⟩
      go_wp2_with fail
      go_ret3
      exact ⟨by rw [HR.out]; rfl, rfl⟩
    · have h3 : ¬ (a.length ≤ 4096 ∧ b.length ≤ 4096) := fun h => he (errT_zero.2 ⟨h1, h2, h⟩)
      have HR := Lib.hid (show errT a b = 4 by rw [errT, if_pos ⟨h1, h2⟩, if_neg h3])
      unfold maxLen at ha hb
      by_cases h4 : 4096 < a.length
      · clear he h3
        go_enter Tryd.func58, Tryd.ntmps58
        go_wp2_with fail
        refine (right_any _ _ ha).mono ?_; rintro e w' ⟨rfl, rfl⟩
        go_wp2_with fail
        refine (right_any _ _ hb).mono ?_; rintro e w' ⟨rfl, rfl⟩
        go_wp2_with fail
        go_ret3
        exact ⟨by rw [HR.out]; rfl, rfl⟩
      · have h5 : 4096 < b.length := by omega
        clear he h3
        go_enter Tryd.func58, Tryd.ntmps58
        go_wp2_with fail
        refine (right_any _ _ ha).mono ?_; rintro e w' ⟨rfl, rfl⟩
        go_wp2_with fail
        refine (right_any _ _ hb).mono ?_; rintro e w' ⟨rfl, rfl⟩
        go_wp2_with fail
        go_ret3
        exact ⟨by rw [HR.out]; rfl, rfl⟩
/-- the number n lies at .slice A _ c -/
structure NumAt (w : World) (A : Option Addr) (c n : Nat) : Prop where
  cells : Cells w A (nums (nl n))
  le : (nl n).length ≤ c
  cap : c ≤ maxLen
theorem NumAt.below {w w' : World} {A : Option Addr} {c n : Nat} (h : NumAt w A c n) (hb : Below w.heap.size w w') : NumAt w' A c n := ⟨h.cells.below hb, h.le, h.cap⟩
theorem two_ok (a b : List UInt8) (w : World) (h1 : right a = true) (h2 : right b = true) (ha : a.length ≤ 4096) (hb : b.length ≤ 4096) :
    Calls Tryd.prog 58 #[.string (B a), .string (B b)] w fun e w' => ∃ A c A' c', e = .returned (.tuple #[.slice A (nl (val a)).length c, .slice A' (nl (val b)).length c', .int .i64 0]) ∧
      NumAt w' A c (val a) ∧ NumAt w' A' c' (val b) ∧ Below w.heap.size w w' := by
  have ha' : a.length ≤ maxLen := by unfold maxLen; omega
  have hb' : b.length ≤ maxLen := by unfold maxLen; omega
  go_enter Tryd.func58, Tryd.ntmps58
  go_wp2_with fail
  refine (right_any _ _ ha').mono ?_; rintro e w' ⟨rfl, rfl⟩
  go_wp2_with fail
  refine (right_any _ _ hb').mono ?_; rintro e w' ⟨rfl, rfl⟩
  go_wp2_with fail
  refine (read_any a _ (by omega) (right_all h1)).mono ?_
  rintro e w1 ⟨A, c, rfl, hl1, hc1, hA, hb1⟩
  go_wp2_with fail
  refine (read_any b _ (by omega) (right_all h2)).mono ?_
  rintro e w2 ⟨A', c', rfl, hl2, hc2, hA', hb2⟩
  go_wp2_with fail
  go_ret3
  exact ⟨A, c, A', c', rfl, ⟨hA.below hb2, hl1, hc1⟩, ⟨hA', hl2, hc2⟩, hb1.trans (hb2.mono hb1.size)⟩
end Go.Proofs.YtkggdkkfdbbglaaDoor

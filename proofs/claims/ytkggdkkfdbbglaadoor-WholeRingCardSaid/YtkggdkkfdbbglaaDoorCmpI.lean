/- cmp.Compare of ints; orders, plain definitions. -/
import Derived.Test.YtkggdkkfdbbglaaDoorBase
namespace Go.Proofs.YtkggdkkfdbbglaaDoor
open Go.RowKit Num
attribute [local go_sem] B_size B_get B_toList B_mk
def cmpI (a b : Int) : Int := if a < b then -1 else if b < a then 1 else 0
def cmpS (a b : List UInt8) : Int := if Op.bytesLess a b then -1 else if a = b then 0 else 1

theorem cmp_int_any (a b : Int) (w : World) : Calls Tryd.prog 80 #[.int .i64 a, .int .i64 b] w fun e w' => e = .returned (.int .i64 (cmpI a b)) ∧ w' = w := by
  have h1 : (a != a) = false := by simp
  have h2 : (b != b) = false := by simp
  by_cases h : a < b
  · go_enter Tryd.func80, Tryd.ntmps80
    go_wp2
    go_ret
    exact ⟨ret_int (by simp [cmpI, h]), rfl⟩
  · by_cases h' : b < a
    · go_enter Tryd.func80, Tryd.ntmps80
      go_wp2
      go_ret
      exact ⟨ret_int (by rw [cmpI, if_neg (by omega), if_pos h']), rfl⟩
    · go_enter Tryd.func80, Tryd.ntmps80
      go_wp2
      go_ret
      exact ⟨ret_int (by rw [cmpI, if_neg (by omega), if_neg (by omega)]), rfl⟩
def or2 (a b : Int) : Int := if a = 0 then b else a
end Go.Proofs.YtkggdkkfdbbglaaDoor

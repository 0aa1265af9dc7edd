/- whole's sums, differences, products of integers' texts that are small. -/
import Derived.Test.YtkggdkkfdbbglaaDoorG1
import Derived.Test.YtkggdkkfdbbglaaDoorG12
namespace Go.Proofs.YtkggdkkfdbbglaaDoor
open Go.RowKit Num
set_option linter.unusedVariables false
attribute [local go_sem] B_size B_get B_toList B_mk B_extract B_append
attribute [local go_sem high] run_max2

theorem padd_dec {x y : Int} (z : Int) (w : World) (hx : dl x ≤ 4000) (hy : dl y ≤ 4000) (hz : x + y = z) (ht : Tab w) :
    Calls Tryd.prog 14 #[.string (B (decI x)), .string (B (decI y))] w fun e w' => e = .returned (.tuple #[.string (B (decI z)), .int .i64 0]) ∧ Below w.heap.size w w' := by
  have h1 := dl_len x
  have h2 := dl_len y
  have h3 := dl_add x y
  have h := padd_any (decI x) (decI y) w (by omega) (by omega) ht
  have he := errI_dec (x := x) (y := y) (by omega) (by omega)
  have hr := resIS_dec (z := x + y) (by omega)
  have e1 : addIS (decI x) (decI y) = decI z := by unfold addIS; rw [if_pos he, valI_decI, valI_decI, hr.1, hz]
  have e2 : addIE (decI x) (decI y) = 0 := by unfold addIE; rw [if_pos he, valI_decI, valI_decI, hr.2]
  rw [e1, e2] at h; exact h
theorem psub_dec {x y : Int} (z : Int) (w : World) (hx : dl x ≤ 4000) (hy : dl y ≤ 4000) (hz : x - y = z) (ht : Tab w) :
    Calls Tryd.prog 16 #[.string (B (decI x)), .string (B (decI y))] w fun e w' => e = .returned (.tuple #[.string (B (decI z)), .int .i64 0]) ∧ Below w.heap.size w w' := by
  have h1 := dl_len x
  have h2 := dl_len y
  have h3 := dl_sub x y
  have h := psub_any (decI x) (decI y) w (by omega) (by omega) ht
  have he := errI_dec (x := x) (y := y) (by omega) (by omega)
  have hr := resIS_dec (z := x - y) (by omega)
  have e1 : subIS (decI x) (decI y) = decI z := by unfold subIS; rw [if_pos he, valI_decI, valI_decI, hr.1, hz]
  have e2 : subIE (decI x) (decI y) = 0 := by unfold subIE; rw [if_pos he, valI_decI, valI_decI, hr.2]
  rw [e1, e2] at h; exact h
theorem pmul_dec {x y : Int} (z : Int) (w : World) (hx : dl x ≤ 2000) (hy : dl y ≤ 2000) (hz : x * y = z) (ht : Tab w) :
    Calls Tryd.prog 32 #[.string (B (decI x)), .string (B (decI y))] w fun e w' => e = .returned (.tuple #[.string (B (decI z)), .int .i64 0]) ∧ Below w.heap.size w w' := by
  have h1 := dl_len x
  have h2 := dl_len y
  have h3 := dl_mul x y
  have h := pmul_any (decI x) (decI y) w (by omega) (by omega) ht
  have he := errI_dec (x := x) (y := y) (by omega) (by omega)
  have hr := resIS_dec (z := x * y) (by omega)
  have e1 : mulIS (decI x) (decI y) = decI z := by unfold mulIS; rw [if_pos he, valI_decI, valI_decI, hr.1, hz]
  have e2 : mulIE (decI x) (decI y) = 0 := by unfold mulIE; rw [if_pos he, valI_decI, valI_decI, hr.2]
  rw [e1, e2] at h; exact h
end Go.Proofs.YtkggdkkfdbbglaaDoor

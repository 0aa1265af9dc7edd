/- The examples of chapter 4; the walks of the laws RatioField, RatioOrders. (Printed by wip/rlaw.py.) -/
import Derived.Test.YtkloocjmncconaaGreatDoorRLawP
import Derived.Test.YtkloocjmncconaaGreatDoorRProg7
import Derived.Test.YtkloocjmncconaaGreatDoorRProg8
namespace Go.Proofs.YtkloocjmncconaaGreatDoor
open Go.RowKit Num
set_option linter.unusedVariables false
attribute [local go_sem] B_size B_get B_toList B_mk B_extract B_append
attribute [local go_sem high] run_max2

theorem exq_add : addQS [49, 47, 50] [49, 47, 51] = [53, 47, 54] ∧ addQE [49, 47, 50] [49, 47, 51] = 0 := by
  have ra : rightQ [49, 47, 50] = true := by decide +kernel
  have rb : rightQ [49, 47, 51] = true := by decide +kernel
  have rc : rightQ [53, 47, 54] = true := by decide +kernel
  have ea := low_ex ra (p := 1) (q := 2) (by decide) (by decide)
  have eb := low_ex rb (p := 1) (q := 3) (by decide) (by decide)
  have ec := low_ex rc (p := 5) (q := 6) (by decide) (by decide)
  have fa := fr_of ra (k := 3) (by decide)
  have fb := fr_of rb (k := 3) (by decide)
  rw [show qn [49, 47, 50] = 1 by decide, show qd [49, 47, 50] = 2 by decide] at fa
  rw [show qn [49, 47, 51] = 1 by decide, show qd [49, 47, 51] = 3 by decide] at fb
  have h := addQ_low fa fb (by omega)
  rw [ea, eb] at h
  exact ⟨h.2.trans ec, h.1⟩
theorem exq_make : makeS [54] [45, 52] = [45, 51, 47, 50] ∧ makeE [54] [45, 52] = 0 := by
  have e : makeE [54] [45, 52] = 0 := by decide +kernel
  refine ⟨?_, e⟩
  unfold makeS
  rw [if_pos e, show valI [54] = 6 by decide, show valI [45, 52] = -4 by decide]
  have rc : rightQ [45, 51, 47, 50] = true := by decide +kernel
  rw [← low_ex rc (p := -3) (q := 2) (by decide) (by decide)]
  unfold quoS
  rw [if_pos (by decide)]
  exact lowS_eq (by decide) (by decide) (by decide)
theorem exq_floor : floorQ [45, 51, 47, 50] = [45, 50] ∧ rightE [45, 51, 47, 50] = 0 := by
  have r : rightQ [45, 51, 47, 50] = true := by decide +kernel
  unfold floorQ rightE
  rw [if_pos r, if_pos r, show qn [45, 51, 47, 50] = -3 by decide, show qd [45, 51, 47, 50] = 2 by decide]
  exact ⟨decI_of (by decide) (by decide), rfl⟩
theorem exq_cmp : cmpQ [49, 47, 51] [49, 47, 50] = -1 := by decide +kernel
theorem exq_right : rightQ [45, 51, 47, 52] = true ∧ rightQ [50, 47, 52] = false := by decide +kernel
set_option maxHeartbeats 1000000 in
set_option maxRecDepth 100000 in
theorem awake_any (w : World) (he : Env w) :
    Calls Tryz.prog 7 #[] w fun e w' => e = .returned (.bool true) ∧ Below w.heap.size w w' := by
  go_enter Tryz.func7, Tryz.ntmps7
  simp only [B_mk]
  go_wp2_with fail
  refine (qadd_any [49, 47, 50] [49, 47, 51] w (by decide) (by decide) he).mono ?_
  rw [exq_add.1, exq_add.2]
  rintro e w1 ⟨rfl, h1⟩
  go_wp2_with fail
  refine (qmake_any [54] [45, 52] w1 (by decide) (by decide) (he.1.below h1)).mono ?_
  rw [exq_make.1, exq_make.2]
  rintro e w2 ⟨rfl, hb⟩
  have h2 := h1.trans (hb.mono h1.size)
  go_wp2_with fail
  refine (qfloor_any [45, 51, 47, 50] w2 (by decide) (he.below h2)).mono ?_
  rw [exq_floor.1, exq_floor.2]
  rintro e w3 ⟨rfl, hb⟩
  have h3 := h2.trans (hb.mono h2.size)
  go_wp2_with fail
  refine (qcmp_any [49, 47, 51] [49, 47, 50] w3 (by decide) (by decide) (he.below h3)).mono ?_
  rw [exq_cmp]
  rintro e w4 ⟨rfl, hb⟩
  have h4 := h3.trans (hb.mono h3.size)
  go_wp2_with fail
  refine (rq_any [45, 51, 47, 52] w4 (by decide) (he.below h4)).mono ?_
  rw [exq_right.1]
  rintro e w5 ⟨rfl, hb⟩
  have h5 := h4.trans (hb.mono h4.size)
  go_wp2_with fail
  refine (rq_any [50, 47, 52] w5 (by decide) (he.below h5)).mono ?_
  rw [exq_right.2]
  rintro e w6 ⟨rfl, hb⟩
  have h6 := h5.trans (hb.mono h5.size)
  go_wp2_with fail
  go_ret
  exact ⟨rfl, h6⟩

end Go.Proofs.YtkloocjmncconaaGreatDoor

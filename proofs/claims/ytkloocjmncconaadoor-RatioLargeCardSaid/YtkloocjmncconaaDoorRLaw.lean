/- The examples of chapter 4; the walks of the laws RatioField, RatioOrders. (Printed by wip/rlaw.py.) -/
import Derived.Test.YtkloocjmncconaaDoorRLawP
import Derived.Test.YtkloocjmncconaaDoorRProg7
import Derived.Test.YtkloocjmncconaaDoorRProg8
namespace Go.Proofs.YtkloocjmncconaaDoor
open Go.RowKit Num
set_option linter.unusedVariables false
attribute [local go_sem] B_size B_get B_toList B_mk B_extract B_append
attribute [local go_sem high] run_max2

theorem exq_add : addQS [49, 47, 50] [49, 47, 51] = [53, 47, 54] ∧ addQE [49, 47, 50] [49, 47, 51] = 0 := by
  have ra : rightQ [49, 47, 50] = true := by decide +kernel
  have rb : rightQ [49, 47, 51] = true := by decide +kernel
  have rc : rightQ [53, 47, 54] = true := by decide +kernel
  have ea := low_ex ra (p := 1) (q := 2) (by decide) (by decide)
  have eb := low_ex rb (p := 1) (q := 3) (by decide) (by decide)
  have ec := low_ex rc (p := 5) (q := 6) (by decide) (by decide)
  have fa := fr_of ra (k := 3) (by decide)
  have fb := fr_of rb (k := 3) (by decide)
  rw [show qn [49, 47, 50] = 1 by decide, show qd [49, 47, 50] = 2 by decide] at fa
  rw [show qn [49, 47, 51] = 1 by decide, show qd [49, 47, 51] = 3 by decide] at fb
  have h := addQ_low fa fb (by omega)
  rw [ea, eb] at h
  exact ⟨h.2.trans ec, h.1⟩
theorem exq_make : makeS [54] [45, 52] = [45, 51, 47, 50] ∧ makeE [54] [45, 52] = 0 := by
  have e : makeE [54] [45, 52] = 0 := by decide +kernel
  refine ⟨?_, e⟩
  unfold makeS
  rw [if_pos e, show valI [54] = 6 by decide, show valI [45, 52] = -4 by decide]
  have rc : rightQ [45, 51, 47, 50] = true := by decide +kernel
  rw [← low_ex rc (p := -3) (q := 2) (by decide) (by decide)]
  unfold quoS
  rw [if_pos (by decide)]
  exact lowS_eq (by decide) (by decide) (by decide)
theorem exq_floor : floorQ [45, 51, 47, 50] = [45, 50] ∧ rightE [45, 51, 47, 50] = 0 := by
  have r : rightQ [45, 51, 47, 50] = true := by decide +kernel
  unfold floorQ rightE
  rw [if_pos r, if_pos r, show qn [45, 51, 47, 50] = -3 by decide, show qd [45, 51, 47, 50] = 2 by decide]
  exact ⟨decI_of (by decide) (by decide), rfl⟩
theorem exq_cmp : cmpQ [49, 47, 51] [49, 47, 50] = -1 := by decide +kernel
theorem exq_right : rightQ [45, 51, 47, 52] = true ∧ rightQ [50, 47, 52] = false := by decide +kernel
set_option maxHeartbeats 1000000 in
set_option maxRecDepth 100000 in
theorem awake_any (w : World) (he : Env w) :
    Calls Tryd.prog 8 #[] w fun e w' => e = .returned (.bool true) ∧ Below w.heap.size w w' := by
  go_enter Tryd.func8, Tryd.ntmps8
  simp only [B_mk]
  go_wp2_with fail
  refine (qadd_any [49, 47, 50] [49, 47, 51] w (by decide) (by decide) he).mono ?_
  rw [exq_add.1, exq_add.2]
  rintro e w1 ⟨rfl, h1⟩
  go_wp2_with fail
  refine (qmake_any [54] [45, 52] w1 (by decide) (by decide) (he.1.below h1)).mono ?_
  rw [exq_make.1, exq_make.2]
  rintro e w2 ⟨rfl, hb⟩
  have h2 := h1.trans (hb.mono h1.size)
  go_wp2_with fail
  refine (qfloor_any [45, 51, 47, 50] w2 (by decide) (he.below h2)).mono ?_
  rw [exq_floor.1, exq_floor.2]
  rintro e w3 ⟨rfl, hb⟩
  have h3 := h2.trans (hb.mono h2.size)
  go_wp2_with fail
  refine (qcmp_any [49, 47, 51] [49, 47, 50] w3 (by decide) (by decide) (he.below h3)).mono ?_
  rw [exq_cmp]
  rintro e w4 ⟨rfl, hb⟩
  have h4 := h3.trans (hb.mono h3.size)
  go_wp2_with fail
  refine (rq_any [45, 51, 47, 52] w4 (by decide) (he.below h4)).mono ?_
  rw [exq_right.1]
  rintro e w5 ⟨rfl, hb⟩
  have h5 := h4.trans (hb.mono h4.size)
  go_wp2_with fail
  refine (rq_any [50, 47, 52] w5 (by decide) (he.below h5)).mono ?_
  rw [exq_right.2]
  rintro e w6 ⟨rfl, hb⟩
  have h6 := h5.trans (hb.mono h5.size)
  go_wp2_with fail
  go_ret
  exact ⟨rfl, h6⟩

set_option maxHeartbeats 1000000 in
set_option maxRecDepth 100000 in
theorem ratioField_walk (a b c : List UInt8) (w : World) (hla : a.length ≤ maxLen) (hlb : b.length ≤ maxLen) (hlc : c.length ≤ maxLen) (he : Env w) :
    Calls Tryd.prog 5 #[.string (B a), .string (B b), .string (B c)] w fun e w' => e = .returned (.bool true) ∧ Below w.heap.size w w' := by
  have HA := Lib.hid (fun w he => awake_any w he)
  by_cases la : 100 < a.length
  · have la2 : (100 : Int) < (a.length : Int) := by omega
    go_enter Tryd.func5, Tryd.ntmps5
    go_wp2_with fail
    refine (HA.out w he).mono ?_
    rintro e w1 ⟨rfl, h1⟩
    go_wp2_with fail
    go_ret
    exact ⟨rfl, h1⟩
  · have la2 : ¬ (100 : Int) < (a.length : Int) := by omega
    by_cases lb : 100 < b.length
    · have lb2 : (100 : Int) < (b.length : Int) := by omega
      go_enter Tryd.func5, Tryd.ntmps5
      go_wp2_with fail
      refine (HA.out w he).mono ?_
      rintro e w1 ⟨rfl, h1⟩
      go_wp2_with fail
      go_ret
      exact ⟨rfl, h1⟩
    · have lb2 : ¬ (100 : Int) < (b.length : Int) := by omega
      by_cases lc : 100 < c.length
      · have lc2 : (100 : Int) < (c.length : Int) := by omega
        go_enter Tryd.func5, Tryd.ntmps5
        go_wp2_with fail
        refine (HA.out w he).mono ?_
        rintro e w1 ⟨rfl, h1⟩
        go_wp2_with fail
        go_ret
        exact ⟨rfl, h1⟩
      · have lc2 : ¬ (100 : Int) < (c.length : Int) := by omega
        have Ra := Lib.hid (fun w he => rq_any a w (by omega) he)
        cases ra : rightQ a
        · rw [ra] at Ra
          go_enter Tryd.func5, Tryd.ntmps5
          go_wp2_with fail
          refine (Ra.out w he).mono ?_
          rintro e w1 ⟨rfl, h1⟩
          go_wp2_with fail
          refine (HA.out w1 (he.below h1)).mono ?_
          rintro e w2 ⟨rfl, hb⟩
          have h2 := h1.trans (hb.mono h1.size)
          clear hb
          go_wp2_with fail
          go_ret
          exact ⟨rfl, h2⟩
        · rw [ra] at Ra
          have Rb := Lib.hid (fun w he => rq_any b w (by omega) he)
          cases rb : rightQ b
          · rw [rb] at Rb
            go_enter Tryd.func5, Tryd.ntmps5
            go_wp2_with fail
            refine (Ra.out w he).mono ?_
            rintro e w1 ⟨rfl, h1⟩
            go_wp2_with fail
            refine (Rb.out w1 (he.below h1)).mono ?_
            rintro e w2 ⟨rfl, hb⟩
            have h2 := h1.trans (hb.mono h1.size)
            clear hb
            go_wp2_with fail
            refine (HA.out w2 (he.below h2)).mono ?_
            rintro e w3 ⟨rfl, hb⟩
            have h3 := h2.trans (hb.mono h2.size)
            clear hb
            go_wp2_with fail
            go_ret
            exact ⟨rfl, h3⟩
          · rw [rb] at Rb
            have Rc := Lib.hid (fun w he => rq_any c w (by omega) he)
            cases rc : rightQ c
            · rw [rc] at Rc
              go_enter Tryd.func5, Tryd.ntmps5
              go_wp2_with fail
              refine (Ra.out w he).mono ?_
              rintro e w1 ⟨rfl, h1⟩
              go_wp2_with fail
              refine (Rb.out w1 (he.below h1)).mono ?_
              rintro e w2 ⟨rfl, hb⟩
              have h2 := h1.trans (hb.mono h1.size)
              clear hb
              go_wp2_with fail
              refine (Rc.out w2 (he.below h2)).mono ?_
              rintro e w3 ⟨rfl, hb⟩
              have h3 := h2.trans (hb.mono h2.size)
              clear hb
              go_wp2_with fail
              refine (HA.out w3 (he.below h3)).mono ?_
              rintro e w4 ⟨rfl, hb⟩
              have h4 := h3.trans (hb.mono h3.size)
              clear hb
              go_wp2_with fail
              go_ret
              exact ⟨rfl, h4⟩
            · rw [rc] at Rc
              obtain ⟨e1, e2, e3, e4, e5, e6, e7, e8, e9, e10, k1, k2, k3, z1, z2⟩ := field_law ra rb rc (by omega) (by omega) (by omega)
              have C1 := Lib.hid (fun w he => qadd_any a b w (by omega) (by omega) he)
              rw [e1] at C1
              have C2 := Lib.hid (fun w he => qadd_any b a w (by omega) (by omega) he)
              rw [e2, e3] at C2
              have C3 := Lib.hid (fun w he => qmul_any (addQS a b) c w k1 (by omega) he)
              rw [e4] at C3
              have C4 := Lib.hid (fun w he => qmul_any a c w (by omega) (by omega) he)
              rw [e5] at C4
              have C5 := Lib.hid (fun w he => qmul_any b c w (by omega) (by omega) he)
              rw [e6] at C5
              have C6 := Lib.hid (fun w he => qadd_any (mulQS a c) (mulQS b c) w k2 k3 he)
              rw [e7, e8] at C6
              have C7 := Lib.hid (fun w he => qsub_any (addQS a b) b w k1 (by omega) he)
              rw [e9, e10] at C7
              have C8 := Lib.hid (fun w he => qdiv_any (mulQS b c) c w k3 (by omega) he)
              generalize mulQS (addQS a b) c = x at *
              clear e1 e2 e3 e4 e5 e6 e7 e8 e9 e10
              generalize addQS a b = s at *
              generalize mulQS a c = y at *
              generalize hz : mulQS b c = z at *
              clear hz
              have q1 : (s == s) = true := by simp
              have q2 : (x == x) = true := by simp
              have q3 : (a == a) = true := by simp
              have q4 : (b == b) = true := by simp
              by_cases hc0 : c = [48]
              · rw [(z1 hc0).1, (z1 hc0).2] at C8
                have q5 : (c == [48]) = true := by simp [hc0]
                clear z1 z2 hc0
                go_enter Tryd.func5, Tryd.ntmps5
                simp only [B_mk]
                go_wp2_with fail
                refine (Ra.out w he).mono ?_
                rintro e w1 ⟨rfl, h1⟩
                go_wp2_with fail
                refine (Rb.out w1 (he.below h1)).mono ?_
                rintro e w2 ⟨rfl, hb⟩
                have h2 := h1.trans (hb.mono h1.size)
                clear hb
                go_wp2_with fail
                refine (Rc.out w2 (he.below h2)).mono ?_
                rintro e w3 ⟨rfl, hb⟩
                have h3 := h2.trans (hb.mono h2.size)
                clear hb
                go_wp2_with fail
                refine (C1.out w3 (he.below h3)).mono ?_
                rintro e w4 ⟨rfl, hb⟩
                have h4 := h3.trans (hb.mono h3.size)
                clear hb
                go_wp2_with fail
                refine (C2.out w4 (he.below h4)).mono ?_
                rintro e w5 ⟨rfl, hb⟩
                have h5 := h4.trans (hb.mono h4.size)
                clear hb
                go_wp2_with fail
                refine (C3.out w5 (he.below h5)).mono ?_
                rintro e w6 ⟨rfl, hb⟩
                have h6 := h5.trans (hb.mono h5.size)
                clear hb
                go_wp2_with fail
                refine (C4.out w6 (he.below h6)).mono ?_
                rintro e w7 ⟨rfl, hb⟩
                have h7 := h6.trans (hb.mono h6.size)
                clear hb
                go_wp2_with fail
                refine (C5.out w7 (he.below h7)).mono ?_
                rintro e w8 ⟨rfl, hb⟩
                have h8 := h7.trans (hb.mono h7.size)
                clear hb
                go_wp2_with fail
                refine (C6.out w8 (he.below h8)).mono ?_
                rintro e w9 ⟨rfl, hb⟩
                have h9 := h8.trans (hb.mono h8.size)
                clear hb
                go_wp2_with fail
                refine (C7.out w9 (he.below h9)).mono ?_
                rintro e w10 ⟨rfl, hb⟩
                have h10 := h9.trans (hb.mono h9.size)
                clear hb
                go_wp2_with fail
                refine (C8.out w10 (he.below h10)).mono ?_
                rintro e w11 ⟨rfl, hb⟩
                have h11 := h10.trans (hb.mono h10.size)
                clear hb
                go_wp2_with fail
                refine (HA.out w11 (he.below h11)).mono ?_
                rintro e w12 ⟨rfl, hb⟩
                have h12 := h11.trans (hb.mono h11.size)
                clear hb
                go_wp2_with fail
                go_ret
                exact ⟨rfl, h12⟩
              · rw [(z2 hc0).1, (z2 hc0).2] at C8
                have q5 : (c == [48]) = false := by simp [hc0]
                clear z1 z2 hc0
                go_enter Tryd.func5, Tryd.ntmps5
                simp only [B_mk]
                go_wp2_with fail
                refine (Ra.out w he).mono ?_
                rintro e w1 ⟨rfl, h1⟩
                go_wp2_with fail
                refine (Rb.out w1 (he.below h1)).mono ?_
                rintro e w2 ⟨rfl, hb⟩
                have h2 := h1.trans (hb.mono h1.size)
                clear hb
                go_wp2_with fail
                refine (Rc.out w2 (he.below h2)).mono ?_
                rintro e w3 ⟨rfl, hb⟩
                have h3 := h2.trans (hb.mono h2.size)
                clear hb
                go_wp2_with fail
                refine (C1.out w3 (he.below h3)).mono ?_
                rintro e w4 ⟨rfl, hb⟩
                have h4 := h3.trans (hb.mono h3.size)
                clear hb
                go_wp2_with fail
                refine (C2.out w4 (he.below h4)).mono ?_
                rintro e w5 ⟨rfl, hb⟩
                have h5 := h4.trans (hb.mono h4.size)
                clear hb
                go_wp2_with fail
                refine (C3.out w5 (he.below h5)).mono ?_
                rintro e w6 ⟨rfl, hb⟩
                have h6 := h5.trans (hb.mono h5.size)
                clear hb
                go_wp2_with fail
                refine (C4.out w6 (he.below h6)).mono ?_
                rintro e w7 ⟨rfl, hb⟩
                have h7 := h6.trans (hb.mono h6.size)
                clear hb
                go_wp2_with fail
                refine (C5.out w7 (he.below h7)).mono ?_
                rintro e w8 ⟨rfl, hb⟩
                have h8 := h7.trans (hb.mono h7.size)
                clear hb
                go_wp2_with fail
                refine (C6.out w8 (he.below h8)).mono ?_
                rintro e w9 ⟨rfl, hb⟩
                have h9 := h8.trans (hb.mono h8.size)
                clear hb
                go_wp2_with fail
                refine (C7.out w9 (he.below h9)).mono ?_
                rintro e w10 ⟨rfl, hb⟩
                have h10 := h9.trans (hb.mono h9.size)
                clear hb
                go_wp2_with fail
                refine (C8.out w10 (he.below h10)).mono ?_
                rintro e w11 ⟨rfl, hb⟩
                have h11 := h10.trans (hb.mono h10.size)
                clear hb
                go_wp2_with fail
                refine (HA.out w11 (he.below h11)).mono ?_
                rintro e w12 ⟨rfl, hb⟩
                have h12 := h11.trans (hb.mono h11.size)
                clear hb
                go_wp2_with fail
                go_ret
                exact ⟨rfl, h12⟩
set_option maxHeartbeats 1000000 in
set_option maxRecDepth 100000 in
theorem ratioOrders_walk (a b : List UInt8) (w : World) (hla : a.length ≤ maxLen) (hlb : b.length ≤ maxLen) (he : Env w) :
    Calls Tryd.prog 4 #[.string (B a), .string (B b)] w fun e w' => e = .returned (.bool true) ∧ Below w.heap.size w w' := by
  have HA := Lib.hid (fun w he => awake_any w he)
  by_cases la : 200 < a.length
  · have la2 : (200 : Int) < (a.length : Int) := by omega
    go_enter Tryd.func4, Tryd.ntmps4
    go_wp2_with fail
    refine (HA.out w he).mono ?_
    rintro e w1 ⟨rfl, h1⟩
    go_wp2_with fail
    go_ret
    exact ⟨rfl, h1⟩
  · have la2 : ¬ (200 : Int) < (a.length : Int) := by omega
    by_cases lb : 200 < b.length
    · have lb2 : (200 : Int) < (b.length : Int) := by omega
      go_enter Tryd.func4, Tryd.ntmps4
      go_wp2_with fail
      refine (HA.out w he).mono ?_
      rintro e w1 ⟨rfl, h1⟩
      go_wp2_with fail
      go_ret
      exact ⟨rfl, h1⟩
    · have lb2 : ¬ (200 : Int) < (b.length : Int) := by omega
      have CC := Lib.hid (fun w he => qcmp_any a b w (by omega) (by omega) he)
      have Ra := Lib.hid (fun w he => rq_any a w (by omega) he)
      cases ra : rightQ a
      · rw [ra] at Ra
        rw [show cmpQ a b = 0 by unfold cmpQ errQ; rw [ra]; simp] at CC
        go_enter Tryd.func4, Tryd.ntmps4
        go_wp2_with fail
        refine (Ra.out w he).mono ?_
        rintro e w1 ⟨rfl, h1⟩
        go_wp2_with fail
        refine (CC.out w1 (he.below h1)).mono ?_
        rintro e w2 ⟨rfl, hb⟩
        have h2 := h1.trans (hb.mono h1.size)
        clear hb
        go_wp2_with fail
        refine (HA.out w2 (he.below h2)).mono ?_
        rintro e w3 ⟨rfl, hb⟩
        have h3 := h2.trans (hb.mono h2.size)
        clear hb
        go_wp2_with fail
        go_ret
        exact ⟨rfl, h3⟩
      · rw [ra] at Ra
        have Rb := Lib.hid (fun w he => rq_any b w (by omega) he)
        cases rb : rightQ b
        · rw [rb] at Rb
          rw [show cmpQ a b = 0 by unfold cmpQ errQ; rw [rb]; simp] at CC
          go_enter Tryd.func4, Tryd.ntmps4
          go_wp2_with fail
          refine (Ra.out w he).mono ?_
          rintro e w1 ⟨rfl, h1⟩
          go_wp2_with fail
          refine (Rb.out w1 (he.below h1)).mono ?_
          rintro e w2 ⟨rfl, hb⟩
          have h2 := h1.trans (hb.mono h1.size)
          clear hb
          go_wp2_with fail
          refine (CC.out w2 (he.below h2)).mono ?_
          rintro e w3 ⟨rfl, hb⟩
          have h3 := h2.trans (hb.mono h2.size)
          clear hb
          go_wp2_with fail
          refine (HA.out w3 (he.below h3)).mono ?_
          rintro e w4 ⟨rfl, hb⟩
          have h4 := h3.trans (hb.mono h3.size)
          clear hb
          go_wp2_with fail
          go_ret
          exact ⟨rfl, h4⟩
        · rw [rb] at Rb
          obtain ⟨e1, e2, e3, k1, k2, k3, e4, e5, e6, e7⟩ := orders_law ra rb (by omega) (by omega)
          have hr : rightE a = 0 := by unfold rightE; rw [ra]; rfl
          have C1 := Lib.hid (fun w he => qsub_any a b w (by omega) (by omega) he)
          rw [e1] at C1
          have C2 := Lib.hid (fun w he => qfloor_any a w (by omega) he)
          rw [hr] at C2
          have C3 := Lib.hid (fun w he => qceil_any a w (by omega) he)
          rw [hr] at C3
          rw [e2] at CC
          have C4 := Lib.hid (fun w he => qsign_any (subQS a b) w k1 he)
          have C5 := Lib.hid (fun w he => qcmp_any b a w (by omega) (by omega) he)
          rw [e3] at C5
          have C6 := Lib.hid (fun w he => qcmp_any (floorQ a) a w k2 (by omega) he)
          have C7 := Lib.hid (fun w he => qcmp_any (ceilQ a) a w k3 (by omega) he)
          have C8 := Lib.hid (fun w he => qsub_any (ceilQ a) (floorQ a) w k3 k2 he)
          rw [e6] at C8
          have hs : signQ (subQS a b) = -1 ∨ signQ (subQS a b) = 0 ∨ signQ (subQS a b) = 1 := by unfold signQ ordI; split <;> (try split) <;> (try split) <;> omega
          generalize signQ (subQS a b) = g at *
          generalize subQS a b = d at *
          generalize cmpQ (floorQ a) a = g1 at *
          generalize cmpQ (ceilQ a) a = g2 at *
          generalize subQS (ceilQ a) (floorQ a) = n at *
          generalize floorQ a = lo at *
          generalize ceilQ a = hi at *
          clear e1 e2 e3 e6 hr k1 k2 k3
          have g1n : ¬ 0 < g1 := by omega
          have g2n : ¬ g2 < 0 := by omega
          have q1 : (g == g) = true := by simp
          have q2 : (-g == -g) = true := by simp
          rcases e7 with ⟨rfl, rfl, rfl⟩ | ⟨hne, rfl⟩
          · have q5 : (lo == lo) = true := by simp
            go_enter Tryd.func4, Tryd.ntmps4
            simp only [B_mk]
            go_wp2_with fail
            refine (Ra.out w he).mono ?_
            rintro e w1 ⟨rfl, h1⟩
            go_wp2_with fail
            refine (Rb.out w1 (he.below h1)).mono ?_
            rintro e w2 ⟨rfl, hb⟩
            have h2 := h1.trans (hb.mono h1.size)
            clear hb
            go_wp2_with fail
            refine (C1.out w2 (he.below h2)).mono ?_
            rintro e w3 ⟨rfl, hb⟩
            have h3 := h2.trans (hb.mono h2.size)
            clear hb
            go_wp2_with fail
            refine (C2.out w3 (he.below h3)).mono ?_
            rintro e w4 ⟨rfl, hb⟩
            have h4 := h3.trans (hb.mono h3.size)
            clear hb
            go_wp2_with fail
            refine (C3.out w4 (he.below h4)).mono ?_
            rintro e w5 ⟨rfl, hb⟩
            have h5 := h4.trans (hb.mono h4.size)
            clear hb
            go_wp2_with fail
            refine (CC.out w5 (he.below h5)).mono ?_
            rintro e w6 ⟨rfl, hb⟩
            have h6 := h5.trans (hb.mono h5.size)
            clear hb
            go_wp2_with fail
            refine (C4.out w6 (he.below h6)).mono ?_
            rintro e w7 ⟨rfl, hb⟩
            have h7 := h6.trans (hb.mono h6.size)
            clear hb
            go_wp2_with fail
            refine (C5.out w7 (he.below h7)).mono ?_
            rintro e w8 ⟨rfl, hb⟩
            have h8 := h7.trans (hb.mono h7.size)
            clear hb
            go_wp2_with fail
            refine (C4.out w8 (he.below h8)).mono ?_
            rintro e w9 ⟨rfl, hb⟩
            have h9 := h8.trans (hb.mono h8.size)
            clear hb
            go_wp2_with fail
            refine (C6.out w9 (he.below h9)).mono ?_
            rintro e w10 ⟨rfl, hb⟩
            have h10 := h9.trans (hb.mono h9.size)
            clear hb
            go_wp2_with fail
            refine (C7.out w10 (he.below h10)).mono ?_
            rintro e w11 ⟨rfl, hb⟩
            have h11 := h10.trans (hb.mono h10.size)
            clear hb
            go_wp2_with fail
            refine (C8.out w11 (he.below h11)).mono ?_
            rintro e w12 ⟨rfl, hb⟩
            have h12 := h11.trans (hb.mono h11.size)
            clear hb
            go_wp2_with fail
            refine (HA.out w12 (he.below h12)).mono ?_
            rintro e w13 ⟨rfl, hb⟩
            have h13 := h12.trans (hb.mono h12.size)
            clear hb
            go_wp2_with fail
            go_ret
            exact ⟨rfl, h13⟩
          · have q5 : (lo == hi) = false := by simpa using hne
            go_enter Tryd.func4, Tryd.ntmps4
            simp only [B_mk]
            go_wp2_with fail
            refine (Ra.out w he).mono ?_
            rintro e w1 ⟨rfl, h1⟩
            go_wp2_with fail
            refine (Rb.out w1 (he.below h1)).mono ?_
            rintro e w2 ⟨rfl, hb⟩
            have h2 := h1.trans (hb.mono h1.size)
            clear hb
            go_wp2_with fail
            refine (C1.out w2 (he.below h2)).mono ?_
            rintro e w3 ⟨rfl, hb⟩
            have h3 := h2.trans (hb.mono h2.size)
            clear hb
            go_wp2_with fail
            refine (C2.out w3 (he.below h3)).mono ?_
            rintro e w4 ⟨rfl, hb⟩
            have h4 := h3.trans (hb.mono h3.size)
            clear hb
            go_wp2_with fail
            refine (C3.out w4 (he.below h4)).mono ?_
            rintro e w5 ⟨rfl, hb⟩
            have h5 := h4.trans (hb.mono h4.size)
            clear hb
            go_wp2_with fail
            refine (CC.out w5 (he.below h5)).mono ?_
            rintro e w6 ⟨rfl, hb⟩
            have h6 := h5.trans (hb.mono h5.size)
            clear hb
            go_wp2_with fail
            refine (C4.out w6 (he.below h6)).mono ?_
            rintro e w7 ⟨rfl, hb⟩
            have h7 := h6.trans (hb.mono h6.size)
            clear hb
            go_wp2_with fail
            refine (C5.out w7 (he.below h7)).mono ?_
            rintro e w8 ⟨rfl, hb⟩
            have h8 := h7.trans (hb.mono h7.size)
            clear hb
            go_wp2_with fail
            refine (C4.out w8 (he.below h8)).mono ?_
            rintro e w9 ⟨rfl, hb⟩
            have h9 := h8.trans (hb.mono h8.size)
            clear hb
            go_wp2_with fail
            refine (C6.out w9 (he.below h9)).mono ?_
            rintro e w10 ⟨rfl, hb⟩
            have h10 := h9.trans (hb.mono h9.size)
            clear hb
            go_wp2_with fail
            refine (C7.out w10 (he.below h10)).mono ?_
            rintro e w11 ⟨rfl, hb⟩
            have h11 := h10.trans (hb.mono h10.size)
            clear hb
            go_wp2_with fail
            refine (C8.out w11 (he.below h11)).mono ?_
            rintro e w12 ⟨rfl, hb⟩
            have h12 := h11.trans (hb.mono h11.size)
            clear hb
            go_wp2_with fail
            refine (HA.out w12 (he.below h12)).mono ?_
            rintro e w13 ⟨rfl, hb⟩
            have h13 := h12.trans (hb.mono h12.size)
            clear hb
            go_wp2_with fail
            go_ret
            exact ⟨rfl, h13⟩
end Go.Proofs.YtkloocjmncconaaDoor

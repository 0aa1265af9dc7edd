/- The law TextNumbers. -/
import Derived.Test.YtdgnnahkcklepaaDoorTAwake
namespace Go.Proofs.YtdgnnahkcklepaaDoor
open Go.RowKit Num Txt
set_option linter.unusedVariables false
attribute [local go_sem] B_size B_get B_toList B_mk B_extract B_append

set_option maxHeartbeats 1000000 in
theorem textNumbers_core (z : Int) (l : List UInt8) (w : World) (hz : fits z) (hl : l.length ≤ maxLen) (ht : Tab w) (he : ErrV w) :
    Calls Tryd.prog 4 #[.int .i64 z, .string (B l)] w fun e w' => e = .returned (.bool true) ∧ Below w.heap.size w w' := by
  by_cases h : 300 < l.length
  · have h' : (300 : Int) < (l.length : Int) := by omega
    go_enter Tryd.func4, Tryd.ntmps4
    go_wp2_with fail
    refine (awake_any w ht he).mono ?_
    rintro e w1 ⟨rfl, hb1⟩
    go_wp2_with fail
    go_ret
    exact ⟨rfl, hb1⟩
  · have h' : ¬ (300 : Int) < (l.length : Int) := by omega
    have hsl : (decI z).length ≤ 1000000 := by
      have h1 := mag_length_decI z
      have h2 := dec_len20 hz
      omega
    have NZ := Lib.hid (@num_zero l)
    go_enter Tryd.func4, Tryd.ntmps4
    go_wp2_with fail
    refine (number_any l w (by omega) he).mono ?_
    rintro e w1 ⟨rfl, hb1⟩
    go_wp2_with fail
    refine (rnumber_any l w1 (by omega)).mono ?_
    rintro e w' ⟨rfl, rfl⟩
    go_wp2_with fail
    refine (decimal_any z _ hz (ht.below hb1)).mono ?_
    rintro e w2 ⟨rfl, hb2⟩
    have h2 := hb1.trans (hb2.mono hb1.size)
    go_wp2_with fail
    refine (number_any (decI z) _ hsl (he.below h2)).mono ?_
    rw [(num_decI hz).1, (num_decI hz).2]
    rintro e w3 ⟨rfl, hb3⟩
    have h3 := h2.trans (hb3.mono h2.size)
    generalize hv : numV l = v at *
    generalize hE : numE l = E at *
    have HZ := NZ
    have t1 : (v == v) = true := by simp
    have t2 : (E == E) = true := by simp
    have t3 : (z == z) = true := by simp
    clear hv hE NZ
    by_cases h0 : E = 0
    · have q0 : (E == 0) = true := by simpa using h0
      have HV := Lib.hid (HZ.out h0)
      clear h0
      go_wp2_with fail
      refine (decimal_any v _ HV.out.2 (ht.below h3)).mono ?_
      rw [HV.out.1]
      rintro e w4 ⟨rfl, hb4⟩
      have h4 := h3.trans (hb4.mono h3.size)
      have t4 : (l != l) = false := by simp
      have t4' : (!(l == l)) = false := by simp
      go_wp2_with fail
      refine (decimal_any z _ hz (ht.below h4)).mono ?_
      rintro e w5 ⟨rfl, hb5⟩
      have h5 := h4.trans (hb5.mono h4.size)
      go_wp2_with fail
      refine (rdecimal_any z _ hz).mono ?_
      rintro e w6 ⟨rfl, hb6⟩
      have h6 := h5.trans (hb6.mono h5.size)
      have t5 : (decI z == decI z) = true := by simp
      go_wp2_with fail
      refine (awake_any _ (ht.below h6) (he.below h6)).mono ?_
      rintro e w7 ⟨rfl, hb7⟩
      go_wp2_with fail
      go_ret
      exact ⟨rfl, h6.trans (hb7.mono h6.size)⟩
    · have q0 : (E == 0) = false := by simpa using h0
      clear h0
      go_wp2_with fail
      refine (decimal_any z _ hz (ht.below h3)).mono ?_
      rintro e w5 ⟨rfl, hb5⟩
      have h5 := h3.trans (hb5.mono h3.size)
      go_wp2_with fail
      refine (rdecimal_any z _ hz).mono ?_
      rintro e w6 ⟨rfl, hb6⟩
      have h6 := h5.trans (hb6.mono h5.size)
      have t5 : (decI z == decI z) = true := by simp
      go_wp2_with fail
      refine (awake_any _ (ht.below h6) (he.below h6)).mono ?_
      rintro e w7 ⟨rfl, hb7⟩
      go_wp2_with fail
      go_ret
      exact ⟨rfl, h6.trans (hb7.mono h6.size)⟩

theorem textNumbers_walk (z : Int) (l : List UInt8) (w : World) (wz : (Lit.int .i64 z).wf = true) (hl : l.length ≤ maxLen) (ht : Tab w) (he : ErrV w) :
    Calls Tryd.prog 4 #[.int .i64 z, .string (B l)] w fun e w' => e = .returned (.bool true) ∧ Below w.heap.size w w' := by
  have b1 : fits z := by
    have h : IntKind.i64.min ≤ z ∧ z ≤ IntKind.i64.max := by simpa [Lit.wf] using wz
    exact h
  exact textNumbers_core z l w b1 hl ht he
end Go.Proofs.YtdgnnahkcklepaaDoor
